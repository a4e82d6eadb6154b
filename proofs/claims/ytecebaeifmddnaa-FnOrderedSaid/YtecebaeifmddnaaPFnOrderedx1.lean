/-
  A text of this claim's own, printed by a program of the session (wip/tools/xprint.py): functions of the program as Lean functions, each with what its call comes to.
-/
import Derived.Test.YtecebaeifmddnaaPFnOrderedx0
namespace Go.Proofs.Ytecebaeifmddnaa.PFnOrdered
open Go.Proofs.YtecebaeifmddnaaW.PrintWords renaming pw_below_drewN → qD, blk_cell → qC, below_drew1 → qO, below_alloc → qA, blk_frozen → qF, below_set → qS, blk_drewN → qN, blk_alloc → qL, blk_drew → qW, below_size → qZ, below_step → qT, blk_below → qB, blk_far → qR, blk_put → qP
open Go.Proofs.YtecebaeifmddnaaW.PrintWords.Aside0 renaming mk → qK
open Bool renaming true → Y, false → Z
open List renaming setIfInBounds_toArray → sIb, set_cons_zero → sZ, set_cons_succ → sS, map_toArray → mT, map_cons → mC, map_nil → mN, length_drop → lD, length_take → lT
open Go.Proofs.YtecebaeifmddnaaW.PrintWords.Kd renaming C_alloc → cL, C_drewN → cN, C_drew → cW, C_below → cB, R_alloc → rL, R_drewN → rN, R_drew → rW, R_below → rB
open Go.RowKit Go.Proofs.YtecebaeifmddnaaW.PrintWords Go.Proofs.YtecebaeifmddnaaW.PrintLast Go.Proofs.YtecebaeifmddnaaW.PrintMore
attribute [local go_sem] max2_int min2_int max_two min_two max_three min_three max_four min_four   -- for this text's walks alone
set_option linter.unusedVariables false
set_option linter.unusedSimpArgs false

/-! ### spec_l1In: function 49 -/
def spec_l1In.f (a0:Int) (a1:Int) (a2:Int):Option (Bool):=if a0 ≥ a1 then (some (decide (a0≤a2))) else (some false)
set_option maxHeartbeats 8000000 in
set_option maxRecDepth 100000 in
theorem spec_l1In.calls (a0:Int) (a1:Int) (a2:Int) (r:Bool) (w:World) (h:spec_l1In.f a0 a1 a2=some r) :
  Calls Try.prog 49 #[.int .i64 a0,.int .i64 a1,.int .i64 a2] w fun e w'=>e=.returned (.bool r)∧Drawn0 w w':=by
 have H:(if a0 ≥ a1 then (some (decide (a0≤a2))) else (some false))=some r:=h;clear h;by_cases c4:a0 ≥ a1
 ·rw [if_pos c4] at H;have aa:decide (a1≤a0)=true:=decide_eq_true c4;clear c4;obtain rfl:=Option.some.inj H;go_enter Try.func49,Try.ntmps49
  go_wp2
  go_ret
  exact ⟨by first|rfl|(simp;done)|(simp [*];done),by repeat (first|exact Drawn0.refl _|apply Drawn0.step)⟩
 ·rw [if_neg c4] at H;have aa:decide (a1≤a0)=false:=decide_eq_false c4;clear c4;obtain rfl:=Option.some.inj H;go_enter Try.func49,Try.ntmps49
  go_wp2
  go_ret
  exact ⟨by first|rfl|(simp;done)|(simp [*];done),by repeat (first|exact Drawn0.refl _|apply Drawn0.step)⟩

/-! ### spec_GoodStats: function 23 -/
mutual
def spec_GoodStats.j0 : Nat→Bool→List Int→List (List Int)→Option (Bool)
 | 0,_,_,_=>none
 | k + 1,x20,x102000,x102001=>if x20=true then (some false) else (spec_GoodStats.l0 k x102000 (x102000.length:Int) 0 x102000 x102001)
def spec_GoodStats.l0 : Nat→List Int→Int→Int→List Int→List (List Int)→Option (Bool)
 | 0,_,_,_,_,_=>none
 | k + 1,x22,x23,x24,x102000,x102001=>if x24 < x23 then (if 0≤x24 then (if x24 < (x22.length:Int) then ((spec_l1In.f (rd x22 x24) 1 50).bind fun t104=>(if t104=true then (if x24 < (x102001.length:Int) then (spec_GoodStats.j2 k x24 x22 x23 x24 (((rd_L1 x102001 x24).length:Int) != x24) x102000 x102001) else (none)) else (spec_GoodStats.j2 k x24 x22 x23 x24 true x102000 x102001))) else (none)) else (none)) else (some true)
def spec_GoodStats.j2 : Nat→Int→List Int→Int→Int→Bool→List Int→List (List Int)→Option (Bool)
 | 0,_,_,_,_,_,_,_=>none
 | k + 1,x3,x22,x23,x24,x41,x102000,x102001=>if x41=true then (some false) else (if 0≤x3 then (if x3 < (x102001.length:Int) then (spec_GoodStats.l1 k x22 x23 x24 (rd_L1 x102001 x3) ((rd_L1 x102001 x3).length:Int) 0 x102000 x102001) else (none)) else (none))
def spec_GoodStats.l1 : Nat→List Int→Int→Int→List Int→Int→Int→List Int→List (List Int)→Option (Bool)
 | 0,_,_,_,_,_,_,_,_=>none
 | k + 1,x22,x23,x24,x46,x47,x48,x102000,x102001=>if x48 < x47 then (if 0≤x48 then (if x48 < (x46.length:Int) then ((spec_l1In.f (rd x46 x48) 1 10).bind fun t108=>(if t108=true then (spec_GoodStats.l1 k x22 x23 x24 x46 x47 (wrap64 (x48 + 1)) x102000 x102001) else (some false))) else (none)) else (none)) else (spec_GoodStats.l0 k x22 x23 (wrap64 (x24 + 1)) x102000 x102001)
end
def spec_GoodStats.f (k:Nat) (l0_0:List Int) (l0_1:List (List Int)):Option (Bool):=(spec_l1In.f (l0_0.length:Int) 1 6).bind fun t102=>(if t102=true then (spec_GoodStats.j0 k ((l0_1.length:Int) != (l0_0.length:Int)) l0_0 l0_1) else (spec_GoodStats.j0 k true l0_0 l0_1))
theorem spec_GoodStats.mono_l : ∀ k,(∀ y0 y1 y2,LeO (spec_GoodStats.j0 k y0 y1 y2) (spec_GoodStats.j0 (k + 1) y0 y1 y2))∧(∀ y0 y1 y2 y3 y4,LeO (spec_GoodStats.l0 k y0 y1 y2 y3 y4) (spec_GoodStats.l0 (k + 1) y0 y1 y2 y3 y4))∧(∀ y0 y1 y2 y3 y4 y5 y6,LeO (spec_GoodStats.j2 k y0 y1 y2 y3 y4 y5 y6) (spec_GoodStats.j2 (k + 1) y0 y1 y2 y3 y4 y5 y6))∧(∀ y0 y1 y2 y3 y4 y5 y6 y7,LeO (spec_GoodStats.l1 k y0 y1 y2 y3 y4 y5 y6 y7) (spec_GoodStats.l1 (k + 1) y0 y1 y2 y3 y4 y5 y6 y7))
 | 0=>⟨fun _ _ _ r h=>by simp [spec_GoodStats.j0] at h,fun _ _ _ _ _ r h=>by simp [spec_GoodStats.l0] at h,fun _ _ _ _ _ _ _ r h=>by simp [spec_GoodStats.j2] at h,fun _ _ _ _ _ _ _ _ r h=>by simp [spec_GoodStats.l1] at h⟩
 | k + 1=>by
  obtain ⟨aa,ab,ac,ad⟩:=spec_GoodStats.mono_l k;refine ⟨?_,?_,?_,?_⟩
  ·intro y0 y1 y2;unfold spec_GoodStats.j0
   repeat' first
   | (with_reducible exact aa _ _ _)
   | (with_reducible exact ab _ _ _ _ _)
   | (with_reducible exact ac _ _ _ _ _ _ _)
   | (with_reducible exact ad _ _ _ _ _ _ _ _)
   | (with_reducible exact LeO.refl _)
   | (with_reducible exact LeO.none _)
   | (with_reducible refine LeO.ite ?_ ?_)
   | (with_reducible refine LeO.bind ?_ (fun _=>?_))
   | exact aa _ _ _
   | exact ab _ _ _ _ _
   | exact ac _ _ _ _ _ _ _
   | exact ad _ _ _ _ _ _ _ _
   | exact LeO.none _
   | refine LeO.ite ?_ ?_
   | refine LeO.bind ?_ (fun _=>?_)
  ·intro y0 y1 y2 y3 y4;unfold spec_GoodStats.l0
   repeat' first
   | (with_reducible exact aa _ _ _)
   | (with_reducible exact ab _ _ _ _ _)
   | (with_reducible exact ac _ _ _ _ _ _ _)
   | (with_reducible exact ad _ _ _ _ _ _ _ _)
   | (with_reducible exact LeO.refl _)
   | (with_reducible exact LeO.none _)
   | (with_reducible refine LeO.ite ?_ ?_)
   | (with_reducible refine LeO.bind ?_ (fun _=>?_))
   | exact aa _ _ _
   | exact ab _ _ _ _ _
   | exact ac _ _ _ _ _ _ _
   | exact ad _ _ _ _ _ _ _ _
   | exact LeO.none _
   | refine LeO.ite ?_ ?_
   | refine LeO.bind ?_ (fun _=>?_)
  ·intro y0 y1 y2 y3 y4 y5 y6;unfold spec_GoodStats.j2
   repeat' first
   | (with_reducible exact aa _ _ _)
   | (with_reducible exact ab _ _ _ _ _)
   | (with_reducible exact ac _ _ _ _ _ _ _)
   | (with_reducible exact ad _ _ _ _ _ _ _ _)
   | (with_reducible exact LeO.refl _)
   | (with_reducible exact LeO.none _)
   | (with_reducible refine LeO.ite ?_ ?_)
   | (with_reducible refine LeO.bind ?_ (fun _=>?_))
   | exact aa _ _ _
   | exact ab _ _ _ _ _
   | exact ac _ _ _ _ _ _ _
   | exact ad _ _ _ _ _ _ _ _
   | exact LeO.none _
   | refine LeO.ite ?_ ?_
   | refine LeO.bind ?_ (fun _=>?_)
  ·intro y0 y1 y2 y3 y4 y5 y6 y7;unfold spec_GoodStats.l1
   repeat' first
   | (with_reducible exact aa _ _ _)
   | (with_reducible exact ab _ _ _ _ _)
   | (with_reducible exact ac _ _ _ _ _ _ _)
   | (with_reducible exact ad _ _ _ _ _ _ _ _)
   | (with_reducible exact LeO.refl _)
   | (with_reducible exact LeO.none _)
   | (with_reducible refine LeO.ite ?_ ?_)
   | (with_reducible refine LeO.bind ?_ (fun _=>?_))
   | exact aa _ _ _
   | exact ab _ _ _ _ _
   | exact ac _ _ _ _ _ _ _
   | exact ad _ _ _ _ _ _ _ _
   | exact LeO.none _
   | refine LeO.ite ?_ ?_
   | refine LeO.bind ?_ (fun _=>?_)
theorem spec_GoodStats.mono : ∀ a0 a1 k,LeO (spec_GoodStats.f k a0 a1) (spec_GoodStats.f (k + 1) a0 a1):=by
 intro a0 a1 k;obtain ⟨aa,ab,ac,ad⟩:=spec_GoodStats.mono_l k;unfold spec_GoodStats.f
 repeat' first
   | (with_reducible exact aa _ _ _)
   | (with_reducible exact ab _ _ _ _ _)
   | (with_reducible exact ac _ _ _ _ _ _ _)
   | (with_reducible exact ad _ _ _ _ _ _ _ _)
   | (with_reducible exact LeO.refl _)
   | (with_reducible exact LeO.none _)
   | (with_reducible refine LeO.ite ?_ ?_)
   | (with_reducible refine LeO.bind ?_ (fun _=>?_))
   | exact aa _ _ _
   | exact ab _ _ _ _ _
   | exact ac _ _ _ _ _ _ _
   | exact ad _ _ _ _ _ _ _ _
   | exact LeO.none _
   | refine LeO.ite ?_ ?_
   | refine LeO.bind ?_ (fun _=>?_)
set_option maxHeartbeats 8000000 in
set_option maxRecDepth 100000 in
theorem spec_GoodStats.calls (k:Nat) (az:Option Addr) (aj:Nat) (ab:List Int) (am:Option Addr) (ak:Nat) (ac:List (List Int)) (r:Bool) (w:World) (bm:Kd.C (Kd.int .i64) w az ab.length ab) (bn:ab.length≤aj) (bo:Kd.C (Kd.slice 3 (Kd.int .i64)) w am ac.length ac) (bp:ac.length≤ak) (h:spec_GoodStats.f k ab ac=some r) :
  Calls Try.prog 23 #[.agg #[.slice az ab.length aj,.slice am ac.length ak]] w fun e w'=>e=.returned (.bool r)∧Below w.heap.size w w':=by
 have ch:=Try.underlying29;have bx:=qK bm;have bV:=qK bn;clear bm bn;have bq:=qK bo;have bW:=qK bp;clear bo bp;have HB:=qK (Below.refl w.heap.size w);have H:((spec_l1In.f (ab.length:Int) 1 6).bind fun be=>(if be=true then (spec_GoodStats.j0 k ((ac.length:Int) != (ab.length:Int)) ab ac) else (spec_GoodStats.j0 k true ab ac)))=some r:=h;clear h;have bM:=qK H;clear H;go_enter Try.func23,Try.ntmps23
 go_upto_region 1 with (first|((with_reducible refine gate_dst (N:=1) rfl ?_);(try (refine gate_guard (by rfl) ?_;dsimp only));refine box_event ?hg (N:=1) ?hd (cs:=#[.slice az ab.length aj,.slice am ac.length ak]) (t:=29) ?hr ?_;(case hd=>rfl);(case hg=>rfl);(case hr=>(go_simp;try rfl));intro af hg w3 hbox hb;have bX:=qK (qT HB.out hb);have bY:=qK (hbox);have bN:=qK ((by rw [hg];exact (qZ HB.out):w.heap.size≤af));have bZ:=bN;clear HB;have HB:=bX;have ad:=bY;have ca:=bN;have an:=bZ;clear bX bY bN bZ;clear hb hbox hg))
 (try simp only [Act.put,List.setIfInBounds_toArray,List.set_cons_zero,List.set_cons_succ]);go_cut [20] (fun ci wc=>∃ (kq:Nat) (aI:Bool),ci=.bool aI∧Aside0 (spec_GoodStats.j0 kq aI ab ac=some r)∧Aside0 (kq≤k)∧Aside0 (wc.heap[af]?=some (.cells #[(.slice az ab.length aj),(.slice am ac.length ak)] 29 (0,0)))∧Aside0 (Below w.heap.size w wc))
 case first =>
  have H:=bM.out;clear bM;replace H:=Option.bind_eq_some_iff.mp H;obtain ⟨be,cb,H⟩:=H;replace H:(if be=true then (spec_GoodStats.j0 k ((ac.length:Int) != (ab.length:Int)) ab ac) else (spec_GoodStats.j0 k true ab ac))=some r:=H;have A4:=qK cb;clear cb;by_cases c5:be=true
  ·subst c5;have H1:(spec_GoodStats.j0 k ((ac.length:Int) != (ab.length:Int)) ab ac)=some r:=by rw [if_pos rfl] at H;exact H
   clear H;have H:=H1;clear H1;have H':=qK H;clear H;have ao:w3.cell? ⟨af,0,none⟩=some (.slice az ab.length aj):=(qC ad.out 0).trans rfl;have ap:w3.cell? ⟨af,1,none⟩=some (.slice am ac.length ak):=(qC ad.out 1).trans rfl;have aq:=qF ad.out 0;have ar:=qF ad.out 1;go_wp2_with (first|((with_reducible refine gate_callee (f:=49) rfl ?_);refine goesL_ (some 10) rfl rfl Try.func49 (by kernel_rfl) rfl #[.int .i64 (ab.length:Int),.int .i64 1,.int .i64 6] rfl (by (try simp only [mT,mC,mN]);first|done|rfl|(simp only [lD,lT];rfl)) ?_;(with_reducible refine (spec_l1In.calls (ab.length:Int) 1 6 true _ A4.out).mono ?_);rintro e w' ⟨rfl,⟨nd,rfl⟩⟩;refine ⟨_,rfl,?_⟩))
   go_meet
   case rel=>exact ⟨_,(((ac.length:Int) != (ab.length:Int))),(by rfl),H',⟨by first|omega|exact Nat.le_refl _⟩,⟨ad.out⟩,⟨by repeat (first|(with_reducible first|exact HB.out|apply qA|apply qD|apply qO|refine qS ?_ an.out)|exact HB.out)⟩⟩
  ·replace c5:=Bool.eq_false_iff.mpr c5;subst c5;have H1:(spec_GoodStats.j0 k true ab ac)=some r:=by rw [if_neg (show ¬ (false=true) by decide)] at H;exact H
   clear H;have H:=H1;clear H1;have H':=qK H;clear H;have au:w3.cell? ⟨af,0,none⟩=some (.slice az ab.length aj):=(qC ad.out 0).trans rfl;have av:w3.cell? ⟨af,1,none⟩=some (.slice am ac.length ak):=(qC ad.out 1).trans rfl;have aw:=qF ad.out 0;have ax:=qF ad.out 1;go_wp2_with (first|((with_reducible refine gate_callee (f:=49) rfl ?_);refine goesL_ (some 10) rfl rfl Try.func49 (by kernel_rfl) rfl #[.int .i64 (ab.length:Int),.int .i64 1,.int .i64 6] rfl (by (try simp only [mT,mC,mN]);first|done|rfl|(simp only [lD,lT];rfl)) ?_;(with_reducible refine (spec_l1In.calls (ab.length:Int) 1 6 false _ A4.out).mono ?_);rintro e w' ⟨rfl,⟨nd,rfl⟩⟩;refine ⟨_,rfl,?_⟩))
   go_meet
   case rel=>exact ⟨_,(true),(by rfl),H',⟨by first|omega|exact Nat.le_refl _⟩,⟨ad.out⟩,⟨by repeat (first|(with_reducible first|exact HB.out|apply qA|apply qD|apply qO|refine qS ?_ an.out)|exact HB.out)⟩⟩
 case rest =>
  clear bM;try clear c2
  try clear p2
  try clear c4
  try clear c5
  try clear ao
  try clear ap
  try clear au
  try clear av
  try clear aq
  try clear ar
  try clear aw
  try clear ax
  obtain ⟨kq,aI,rfl,HA,bv,ad,HB⟩:=hcut;cases kq with
  | zero=>exact absurd HA.out (by simp [spec_GoodStats.j0])
  | succ kj1 =>
   have H:=HA.out;clear HA;simp only [spec_GoodStats.j0] at H;by_cases c8:aI=true
   ·subst c8;have H1:(some false)=some r:=by rw [if_pos rfl] at H;exact H
    clear H;have H:=H1;clear H1;obtain rfl:=Option.some.inj H;go_wp2
    go_ret
    exact ⟨by rfl,HB.out⟩
   ·replace c8:=Bool.eq_false_iff.mpr c8;subst c8;have H1:(spec_GoodStats.l0 kj1 ab (ab.length:Int) 0 ab ac)=some r:=by rw [if_neg (show ¬ (false=true) by decide)] at H;exact H
    clear H;have H:=H1;clear H1;have H':=qK H;clear H;have aA:wc.cell? ⟨af,0,none⟩=some (.slice az ab.length aj):=(qC ad.out 0).trans rfl;have aC:wc.cell? ⟨af,1,none⟩=some (.slice am ac.length ak):=(qC ad.out 1).trans rfl;have aD:=qF ad.out 0;have aE:=qF ad.out 1;go_wp2
    go_loopg [24] kj1 (fun kq cj w'=>∃ (aa:Int),cj=.int .i64 aa∧Aside0 (spec_GoodStats.l0 kq ab (ab.length:Int) aa ab ac=some r)∧Aside0 (kq≤kj1)∧Aside0 (w'.heap[af]?=some (.cells #[(.slice az ab.length aj),(.slice am ac.length ak)] 29 (0,0)))∧Aside0 (Below w.heap.size w w'))
    case atStart=>exact ⟨(0),(by rfl),H',⟨Nat.le_refl _⟩,⟨ad.out⟩,⟨HB.out⟩⟩
    case round =>
     clear H';try clear c2
     try clear p2
     try clear c4
     try clear c5
     try clear c8
     try clear ao
     try clear ap
     try clear au
     try clear av
     try clear aA
     try clear aC
     try clear aq
     try clear ar
     try clear aw
     try clear ax
     try clear aD
     try clear aE
     try clear p2
     obtain ⟨aa,rfl,HA,bw,ad,HB⟩:=hrel;cases gk with
     | zero=>exact absurd HA.out (by simp [spec_GoodStats.l0])
     | succ k2 =>
      have H:=HA.out;clear HA;simp only [spec_GoodStats.l0] at H;by_cases c10:aa < (ab.length:Int)
      ·rw [if_pos c10] at H;have aZ:decide (aa < (ab.length:Int))=true:=decide_eq_true c10;clear c10;by_cases c11:0≤aa
       ·rw [if_pos c11] at H;have br:decide (0≤aa)=true:=decide_eq_true c11;clear c11;by_cases c12:aa < (ab.length:Int)
        ·rw [if_pos c12] at H;have bs:decide (aa < (ab.length:Int))=true:=decide_eq_true c12;clear c12;have bt:=qK H;clear H;have ba:0≤(aa:Int):=of_decide_eq_true (by assumption);have bb:aa < (ab.length:Int):=of_decide_eq_true (by assumption);obtain ⟨aJ,bO,ah⟩:=Kd.at_int bx.out aa ba bb;cases bO
         replace ah:=(HB.out.cell (World.block_lt_of_cell? w _ ah)).trans ah;replace ba:=eq_true ba;replace bb:=eq_true bb;go_upto_region 6 with (fail)
         go_cut [41] (fun ck wc=>∃ (kq:Nat) (ay:Bool),ck=.bool ay∧Aside0 (spec_GoodStats.j2 kq aa ab (ab.length:Int) aa ay ab ac=some r)∧Aside0 (kq≤k2)∧Aside0 (wc.heap[af]?=some (.cells #[(.slice (some aJ) ab.length aj),(.slice am ac.length ak)] 29 (0,0)))∧Aside0 (Below w.heap.size w wc))
         case first =>
          have H:=bt.out;clear bt;replace H:=Option.bind_eq_some_iff.mp H;obtain ⟨bz,bA,H⟩:=H;replace H:(if bz=true then (if aa < (ac.length:Int) then (spec_GoodStats.j2 k2 aa ab (ab.length:Int) aa (((rd_L1 ac aa).length:Int) != aa) ab ac) else (none)) else (spec_GoodStats.j2 k2 aa ab (ab.length:Int) aa true ab ac))=some r:=H;have cc:=qK bA;clear bA;by_cases c15:bz=true
          ·subst c15;have H1:(if aa < (ac.length:Int) then (spec_GoodStats.j2 k2 aa ab (ab.length:Int) aa (((rd_L1 ac aa).length:Int) != aa) ab ac) else (none))=some r:=by rw [if_pos rfl] at H;exact H
           clear H;have H:=H1;clear H1;by_cases c16:aa < (ac.length:Int)
           ·rw [if_pos c16] at H;have aK:decide (aa < (ac.length:Int))=true:=decide_eq_true c16;clear c16;(first|rw [aK]|(simp only [i64_w,i32_w];rw [aK])|skip);have H':=qK H;clear H;go_wp2_with (first|((with_reducible refine gate_callee (f:=49) rfl ?_);refine goesL_ (some 30) rfl rfl Try.func49 (by kernel_rfl) rfl #[.int .i64 (rd ab aa),.int .i64 1,.int .i64 50] rfl (by (try simp only [mT,mC,mN]);first|done|rfl|(simp only [lD,lT];rfl)) ?_;(with_reducible refine (spec_l1In.calls (rd ab aa) 1 50 true _ cc.out).mono ?_);rintro e w' ⟨rfl,⟨nd,rfl⟩⟩;refine ⟨_,rfl,?_⟩;have aM:wr.cell? ⟨af,0,none⟩=some (.slice (some aJ) ab.length aj):=(qC ad.out 0).trans rfl;have aN:wr.cell? ⟨af,1,none⟩=some (.slice am ac.length ak):=(qC ad.out 1).trans rfl;have aQ:=qF ad.out 0;have aT:=qF ad.out 1;have bc:0≤(aa:Int):=of_decide_eq_true (by assumption);have bd:aa < (ac.length:Int):=of_decide_eq_true (by assumption);obtain ⟨cd,bP,bQ,bR,ai,aU,aV⟩:=at_L1 bq.out aa bc bd;cases bR;replace ai:=(HB.out.cell (World.block_lt_of_cell? w _ ai)).trans ai;have bI:=qK aV;have bJ:=qK aU;clear aV aU;replace bc:=eq_true bc;replace bd:=eq_true bd))
            go_meet
            case rel=>exact ⟨_,((((rd_L1 ac aa).length:Int) != aa)),(by rfl),H',⟨by have:=bv.out;have:=bw.out;first|omega|exact Nat.le_refl _⟩,⟨ad.out⟩,⟨by repeat (first|(with_reducible first|exact HB.out|apply qA|apply qD|apply qO|refine qS ?_ an.out)|exact HB.out)⟩⟩
           ·rw [if_neg c16] at H;exact absurd H (by simp)
          ·replace c15:=Bool.eq_false_iff.mpr c15;subst c15;have H1:(spec_GoodStats.j2 k2 aa ab (ab.length:Int) aa true ab ac)=some r:=by rw [if_neg (show ¬ (false=true) by decide)] at H;exact H
           clear H;have H:=H1;clear H1;have H':=qK H;clear H;go_wp2_with (first|((with_reducible refine gate_callee (f:=49) rfl ?_);refine goesL_ (some 30) rfl rfl Try.func49 (by kernel_rfl) rfl #[.int .i64 (rd ab aa),.int .i64 1,.int .i64 50] rfl (by (try simp only [mT,mC,mN]);first|done|rfl|(simp only [lD,lT];rfl)) ?_;(with_reducible refine (spec_l1In.calls (rd ab aa) 1 50 false _ cc.out).mono ?_);rintro e w' ⟨rfl,⟨nd,rfl⟩⟩;refine ⟨_,rfl,?_⟩))
           go_meet
           case rel=>exact ⟨_,(true),(by rfl),H',⟨by have:=bv.out;have:=bw.out;first|omega|exact Nat.le_refl _⟩,⟨ad.out⟩,⟨by repeat (first|(with_reducible first|exact HB.out|apply qA|apply qD|apply qO|refine qS ?_ an.out)|exact HB.out)⟩⟩
         case rest =>
          clear bt;try clear c1
          try clear p1
          try clear q1
          try clear hx1
          try clear c2
          try clear p2
          try clear c4
          try clear c5
          try clear c8
          try clear c10
          try clear aZ
          try clear p10
          try clear q10
          try clear hx10
          try clear c11
          try clear br
          try clear c12
          try clear bs
          try clear c15
          try clear c16
          try clear aK
          try clear aM
          try clear aN
          try clear ao
          try clear ap
          try clear au
          try clear av
          try clear aA
          try clear aC
          try clear aQ
          try clear aT
          try clear aq
          try clear ar
          try clear aw
          try clear ax
          try clear aD
          try clear aE
          try clear ah
          try clear ai
          try clear ba
          try clear bc
          try clear p2
          try clear bb
          try clear bd
          obtain ⟨kq,ay,rfl,HA,bf,ad,HB⟩:=hcut;cases kq with
          | zero=>exact absurd HA.out (by simp [spec_GoodStats.j2])
          | succ kj12 =>
           have H:=HA.out;clear HA;simp only [spec_GoodStats.j2] at H;by_cases c18:ay=true
           ·subst c18;have H1:(some false)=some r:=by rw [if_pos rfl] at H;exact H
            clear H;have H:=H1;clear H1;obtain rfl:=Option.some.inj H;go_wp2
            go_ret
            exact ⟨by rfl,HB.out⟩
           ·replace c18:=Bool.eq_false_iff.mpr c18;subst c18;have H1:(if 0≤aa then (if aa < (ac.length:Int) then (spec_GoodStats.l1 kj12 ab (ab.length:Int) aa (rd_L1 ac aa) ((rd_L1 ac aa).length:Int) 0 ab ac) else (none)) else (none))=some r:=by rw [if_neg (show ¬ (false=true) by decide)] at H;exact H
            clear H;have H:=H1;clear H1;by_cases c19:0≤aa
            ·rw [if_pos c19] at H;have bB:decide (0≤aa)=true:=decide_eq_true c19;clear c19;by_cases c20:aa < (ac.length:Int)
             ·rw [if_pos c20] at H;have bC:decide (aa < (ac.length:Int))=true:=decide_eq_true c20;clear c20;have H':=qK H;clear H;have bg:wc.cell? ⟨af,0,none⟩=some (.slice (some aJ) ab.length aj):=(qC ad.out 0).trans rfl;have bh:wc.cell? ⟨af,1,none⟩=some (.slice am ac.length ak):=(qC ad.out 1).trans rfl;have bi:=qF ad.out 0;have bj:=qF ad.out 1;have bk:0≤(aa:Int):=of_decide_eq_true (by assumption);have bl:aa < (ac.length:Int):=of_decide_eq_true (by assumption);obtain ⟨bD,bS,bT,bU,al,aW,aX⟩:=at_L1 bq.out aa bk bl;cases bU
              replace al:=(HB.out.cell (World.block_lt_of_cell? w _ al)).trans al;have aY:=qK aX;have bK:=qK aW;clear aX aW;replace bk:=eq_true bk;replace bl:=eq_true bl;go_wp2
              go_loopg [48] kj12 (fun kq cl w'=>∃ (ae:Int),cl=.int .i64 ae∧Aside0 (spec_GoodStats.l1 kq ab (ab.length:Int) aa (rd_L1 ac aa) ((rd_L1 ac aa).length:Int) ae ab ac=some r)∧Aside0 (kq≤kj12)∧Aside0 (w'.heap[af]?=some (.cells #[(.slice (some aJ) ab.length aj),(.slice (some bD) ac.length ak)] 29 (0,0)))∧Aside0 (Below w.heap.size w w'))
              case atStart=>exact ⟨(0),(by rfl),H',⟨Nat.le_refl _⟩,⟨ad.out⟩,⟨HB.out⟩⟩
              case round =>
               clear H';try clear c1
               try clear p1
               try clear q1
               try clear hx1
               try clear c2
               try clear p2
               try clear c4
               try clear c5
               try clear c8
               try clear c10
               try clear aZ
               try clear p10
               try clear q10
               try clear hx10
               try clear c11
               try clear br
               try clear c12
               try clear bs
               try clear c15
               try clear c16
               try clear aK
               try clear c18
               try clear c19
               try clear bB
               try clear c20
               try clear bC
               try clear aM
               try clear aN
               try clear bg
               try clear bh
               try clear ao
               try clear ap
               try clear au
               try clear av
               try clear aA
               try clear aC
               try clear aQ
               try clear aT
               try clear bi
               try clear bj
               try clear aq
               try clear ar
               try clear aw
               try clear ax
               try clear aD
               try clear aE
               try clear ah
               try clear ai
               try clear al
               try clear p1
               try clear p10
               try clear ba
               try clear bc
               try clear bk
               try clear p2
               try clear q1
               try clear q10
               try clear bb
               try clear bd
               try clear bl
               obtain ⟨ae,rfl,HA,bL,ad,HB⟩:=hrel;cases gk with
               | zero=>exact absurd HA.out (by simp [spec_GoodStats.l1])
               | succ k4 =>
                have H:=HA.out;clear HA;simp only [spec_GoodStats.l1] at H;by_cases c22:ae < ((rd_L1 ac aa).length:Int)
                ·rw [if_pos c22] at H;have bE:decide (ae < ((rd_L1 ac aa).length:Int))=true:=decide_eq_true c22;clear c22;by_cases c23:0≤ae
                 ·rw [if_pos c23] at H;have ce:decide (0≤ae)=true:=decide_eq_true c23;clear c23;by_cases c24:ae < ((rd_L1 ac aa).length:Int)
                  ·rw [if_pos c24] at H;have cf:decide (ae < ((rd_L1 ac aa).length:Int))=true:=decide_eq_true c24;clear c24;replace H:=Option.bind_eq_some_iff.mp H;obtain ⟨bF,bG,H⟩:=H;replace H:(if bF=true then (spec_GoodStats.l1 k4 ab (ab.length:Int) aa (rd_L1 ac aa) ((rd_L1 ac aa).length:Int) (wrap64 (ae + 1)) ab ac) else (some false))=some r:=H;have cg:=qK bG;clear bG;by_cases c26:bF=true
                   ·subst c26;have H1:(spec_GoodStats.l1 k4 ab (ab.length:Int) aa (rd_L1 ac aa) ((rd_L1 ac aa).length:Int) (wrap64 (ae + 1)) ab ac)=some r:=by rw [if_pos rfl] at H;exact H
                    clear H;have H:=H1;clear H1;have H':=qK H;clear H;have aG:0≤(ae:Int):=of_decide_eq_true (by assumption);have aH:ae < ((rd_L1 ac aa).length:Int):=of_decide_eq_true (by assumption);obtain ⟨bH,bu,ag⟩:=Kd.at_int aY.out ae aG aH;cases bu
                    replace ag:=(HB.out.cell (World.block_lt_of_cell? w _ ag)).trans ag;replace aG:=eq_true aG;replace aH:=eq_true aH;go_wp2_with (first|((with_reducible refine gate_callee (f:=49) rfl ?_);refine goesL_ (some 53) rfl rfl Try.func49 (by kernel_rfl) rfl #[.int .i64 (rd (rd_L1 ac aa) ae),.int .i64 1,.int .i64 10] rfl (by (try simp only [mT,mC,mN]);first|done|rfl|(simp only [lD,lT];rfl)) ?_;(with_reducible refine (spec_l1In.calls (rd (rd_L1 ac aa) ae) 1 10 true _ cg.out).mono ?_);rintro e w' ⟨rfl,⟨nd,rfl⟩⟩;refine ⟨_,rfl,?_⟩))
                    go_roundg k4
                    case measure=>have:=bv.out;have:=bw.out;have:=bf.out;have:=bL.out;omega
                    case rel=>exact ⟨(wrap64 (ae + 1)),(by rfl),H',⟨by have:=bv.out;have:=bw.out;have:=bf.out;have:=bL.out;omega⟩,⟨ad.out⟩,⟨by repeat (first|(with_reducible first|exact HB.out|apply qA|apply qD|apply qO|refine qS ?_ an.out)|exact HB.out)⟩⟩
                   ·replace c26:=Bool.eq_false_iff.mpr c26;subst c26;have H1:(some false)=some r:=by rw [if_neg (show ¬ (false=true) by decide)] at H;exact H
                    clear H;have H:=H1;clear H1;obtain rfl:=Option.some.inj H;have aG:0≤(ae:Int):=of_decide_eq_true (by assumption);have aH:ae < ((rd_L1 ac aa).length:Int):=of_decide_eq_true (by assumption);obtain ⟨bH,bu,ag⟩:=Kd.at_int aY.out ae aG aH;cases bu
                    replace ag:=(HB.out.cell (World.block_lt_of_cell? w _ ag)).trans ag;replace aG:=eq_true aG;replace aH:=eq_true aH;go_wp2_with (first|((with_reducible refine gate_callee (f:=49) rfl ?_);refine goesL_ (some 53) rfl rfl Try.func49 (by kernel_rfl) rfl #[.int .i64 (rd (rd_L1 ac aa) ae),.int .i64 1,.int .i64 10] rfl (by (try simp only [mT,mC,mN]);first|done|rfl|(simp only [lD,lT];rfl)) ?_;(with_reducible refine (spec_l1In.calls (rd (rd_L1 ac aa) ae) 1 10 false _ cg.out).mono ?_);rintro e w' ⟨rfl,⟨nd,rfl⟩⟩;refine ⟨_,rfl,?_⟩))
                    go_ret
                    exact ⟨by rfl,by repeat (first|(with_reducible first|exact HB.out|apply qA|apply qD|apply qO|refine qS ?_ an.out)|exact HB.out)⟩
                  ·rw [if_neg c24] at H;exact absurd H (by simp)
                 ·rw [if_neg c23] at H;exact absurd H (by simp)
                ·rw [if_neg c22] at H;have bE:decide (ae < ((rd_L1 ac aa).length:Int))=false:=decide_eq_false c22;clear c22;have H':=qK H;clear H;go_wp2
                 go_roundg k4
                 case measure=>have:=bv.out;have:=bw.out;have:=bf.out;have:=bL.out;omega
                 case rel=>exact ⟨(wrap64 (aa + 1)),(by rfl),H',⟨by have:=bv.out;have:=bw.out;have:=bf.out;have:=bL.out;omega⟩,⟨ad.out⟩,⟨HB.out⟩⟩
             ·rw [if_neg c20] at H;exact absurd H (by simp)
            ·rw [if_neg c19] at H;exact absurd H (by simp)
        ·rw [if_neg c12] at H;exact absurd H (by simp)
       ·rw [if_neg c11] at H;exact absurd H (by simp)
      ·rw [if_neg c10] at H;have aZ:decide (aa < (ab.length:Int))=false:=decide_eq_false c10;clear c10;obtain rfl:=Option.some.inj H;go_wp2
       go_ret
       exact ⟨by rfl,HB.out⟩

/-! ### spec_l1Some: function 30 -/
def spec_l1Some.l0 : Nat→List Int→Int→List Int→Int→Int→Option (Bool)
 | 0,_,_,_,_,_=>none
 | k + 1,x0,x1,x7,x8,x9=>if x9 < x8 then (if 0≤x9 then (if x9 < (x7.length:Int) then (if (rd x7 x9) < 0 then (some false) else (if (rd x7 x9) ≥ x1 then (some false) else (if x9 > 0 then (if 0≤(wrap64 (x9 - 1)) then (if (wrap64 (x9 - 1)) < (x0.length:Int) then (if (rd x0 (wrap64 (x9 - 1))) ≥ (rd x7 x9) then (some false) else (spec_l1Some.l0 k x0 x1 x7 x8 (wrap64 (x9 + 1)))) else (none)) else (none)) else (spec_l1Some.l0 k x0 x1 x7 x8 (wrap64 (x9 + 1)))))) else (none)) else (none)) else (some true)
def spec_l1Some.f (k:Nat) (l0:List Int) (a1:Int):Option (Bool):=spec_l1Some.l0 k l0 a1 l0 (l0.length:Int) 0
theorem spec_l1Some.mono_l : ∀ k,(∀ y0 y1 y2 y3 y4,LeO (spec_l1Some.l0 k y0 y1 y2 y3 y4) (spec_l1Some.l0 (k + 1) y0 y1 y2 y3 y4))
 | 0=>fun _ _ _ _ _ r h=>by simp [spec_l1Some.l0] at h
 | k + 1=>by
  have aa:=spec_l1Some.mono_l k
  ·intro y0 y1 y2 y3 y4;unfold spec_l1Some.l0
   repeat' first
   | (with_reducible exact aa _ _ _ _ _)
   | (with_reducible exact LeO.refl _)
   | (with_reducible exact LeO.none _)
   | (with_reducible refine LeO.ite ?_ ?_)
   | (with_reducible refine LeO.bind ?_ (fun _=>?_))
   | exact aa _ _ _ _ _
   | exact LeO.none _
   | refine LeO.ite ?_ ?_
   | refine LeO.bind ?_ (fun _=>?_)
theorem spec_l1Some.mono : ∀ a0 a1 k,LeO (spec_l1Some.f k a0 a1) (spec_l1Some.f (k + 1) a0 a1):=by
 intro a0 a1 k;have aa:=spec_l1Some.mono_l k;unfold spec_l1Some.f
 repeat' first
   | (with_reducible exact aa _ _ _ _ _)
   | (with_reducible exact LeO.refl _)
   | (with_reducible exact LeO.none _)
   | (with_reducible refine LeO.ite ?_ ?_)
   | (with_reducible refine LeO.bind ?_ (fun _=>?_))
   | exact aa _ _ _ _ _
   | exact LeO.none _
   | refine LeO.ite ?_ ?_
   | refine LeO.bind ?_ (fun _=>?_)
set_option maxHeartbeats 8000000 in
set_option maxRecDepth 100000 in
theorem spec_l1Some.calls (k:Nat) (A0:Option Addr) (c0:Nat) (l0:List Int) (a1:Int) (r:Bool) (w:World) (aw:Kd.C (Kd.int .i64) w A0 l0.length l0) (ax:l0.length≤c0) (h:spec_l1Some.f k l0 a1=some r) :
  Calls Try.prog 30 #[.slice A0 l0.length c0,.int .i64 a1] w fun e w'=>e=.returned (.bool r)∧Drawn0 w w':=by
 have am:=qK aw;have aE:=qK ax;clear aw ax;have H:(spec_l1Some.l0 k l0 a1 l0 (l0.length:Int) 0)=some r:=h;clear h;have H':=qK H;clear H;go_enter Try.func30,Try.ntmps30
 go_wp2
 go_loopg [9] k (fun kq v9 w'=>∃ (aa:Int),v9=.int .i64 aa∧Aside0 (spec_l1Some.l0 kq l0 a1 l0 (l0.length:Int) aa=some r)∧Aside0 (kq≤k)∧Drawn0 w w')
 case atStart=>exact ⟨(0),(by rfl),H',⟨Nat.le_refl _⟩,by repeat (first|exact Drawn0.refl _|apply Drawn0.step)⟩
 case round =>
  clear H';try clear p2
  obtain ⟨aa,rfl,HA,ap,⟨m1,rfl⟩⟩:=hrel;cases gk with
  | zero=>exact absurd HA.out (by simp [spec_l1Some.l0])
  | succ k1 =>
   have H:=HA.out;clear HA;simp only [spec_l1Some.l0] at H;by_cases c3:aa < (l0.length:Int)
   ·rw [if_pos c3] at H;have aq:decide (aa < (l0.length:Int))=true:=decide_eq_true c3;clear c3;by_cases c4:0≤aa
    ·rw [if_pos c4] at H;have aC:decide (0≤aa)=true:=decide_eq_true c4;clear c4;by_cases c5:aa < (l0.length:Int)
     ·rw [if_pos c5] at H;have aD:decide (aa < (l0.length:Int))=true:=decide_eq_true c5;clear c5;by_cases c6:(rd l0 aa) < 0
      ·rw [if_pos c6] at H;have ar:decide ((rd l0 aa) < 0)=true:=decide_eq_true c6;clear c6;obtain rfl:=Option.some.inj H;have ab:0≤(aa:Int):=of_decide_eq_true (by assumption);have ac:aa < (l0.length:Int):=of_decide_eq_true (by assumption);obtain ⟨ae,af,ad⟩:=Kd.at_int am.out aa ab ac;cases af
       replace ab:=eq_true ab;replace ac:=eq_true ac;go_wp2
       go_ret
       exact ⟨by first|rfl|(simp;done)|(simp [*];done),by repeat (first|exact Drawn0.refl _|apply Drawn0.step)⟩
      ·rw [if_neg c6] at H;have ar:decide ((rd l0 aa) < 0)=false:=decide_eq_false c6;clear c6;by_cases c7:(rd l0 aa) ≥ a1
       ·rw [if_pos c7] at H;have au:decide (a1≤(rd l0 aa))=true:=decide_eq_true c7;clear c7;obtain rfl:=Option.some.inj H;have ab:0≤(aa:Int):=of_decide_eq_true (by assumption);have ac:aa < (l0.length:Int):=of_decide_eq_true (by assumption);obtain ⟨ae,af,ad⟩:=Kd.at_int am.out aa ab ac;cases af
        replace ab:=eq_true ab;replace ac:=eq_true ac;go_wp2
        go_ret
        exact ⟨by first|rfl|(simp;done)|(simp [*];done),by repeat (first|exact Drawn0.refl _|apply Drawn0.step)⟩
       ·rw [if_neg c7] at H;have au:decide (a1≤(rd l0 aa))=false:=decide_eq_false c7;clear c7;by_cases c8:aa > 0
        ·rw [if_pos c8] at H;have av:decide (0 < aa)=true:=decide_eq_true c8;clear c8;obtain ⟨ag,ak⟩:∃ j_:Int,(wrap64 (aa - 1))=j_:=⟨_,rfl⟩;replace H:(if 0≤(ag) then (if (ag) < (l0.length:Int) then (if (rd l0 (ag)) ≥ (rd l0 aa) then (some false) else (spec_l1Some.l0 k1 l0 a1 l0 (l0.length:Int) (wrap64 (aa + 1)))) else (none)) else (none))=some r:=by first|(rw [ak] at H;exact H)|(simp only [ak] at H ⊢;exact H)
         have ay:(IntKind.i64.wrap (aa - 1))=ag:=(i64_w _).trans ak;by_cases c10:0≤(ag)
         ·rw [if_pos c10] at H;have az:decide (0≤(ag))=true:=decide_eq_true c10;clear c10;by_cases c11:(ag) < (l0.length:Int)
          ·rw [if_pos c11] at H;have aA:decide ((ag) < (l0.length:Int))=true:=decide_eq_true c11;clear c11;by_cases c12:(rd l0 (ag)) ≥ (rd l0 aa)
           ·rw [if_pos c12] at H;have ao:decide ((rd l0 aa)≤(rd l0 (ag)))=true:=decide_eq_true c12;clear c12;obtain rfl:=Option.some.inj H;have ab:0≤(aa:Int):=of_decide_eq_true (by assumption);have ac:aa < (l0.length:Int):=of_decide_eq_true (by assumption);obtain ⟨ae,af,ad⟩:=Kd.at_int am.out aa ab ac;cases af
            replace ab:=eq_true ab;replace ac:=eq_true ac;have ah:0≤((ag):Int):=of_decide_eq_true (by assumption);have ai:(ag) < (l0.length:Int):=of_decide_eq_true (by assumption);obtain ⟨aj,an,al⟩:=Kd.at_int am.out (ag) ah ai;obtain rfl:ae=aj:=(by injection an);replace ah:=eq_true ah;replace ai:=eq_true ai;go_wp2
            go_ret
            exact ⟨by first|rfl|(simp;done)|(simp only [← ak] <;> (first|rfl|simp))|(simp [*];done),by repeat (first|exact Drawn0.refl _|apply Drawn0.step)⟩
           ·rw [if_neg c12] at H;have ao:decide ((rd l0 aa)≤(rd l0 (ag)))=false:=decide_eq_false c12;clear c12;have H':=qK H;clear H;have ab:0≤(aa:Int):=of_decide_eq_true (by assumption);have ac:aa < (l0.length:Int):=of_decide_eq_true (by assumption);obtain ⟨ae,af,ad⟩:=Kd.at_int am.out aa ab ac;cases af
            replace ab:=eq_true ab;replace ac:=eq_true ac;have ah:0≤((ag):Int):=of_decide_eq_true (by assumption);have ai:(ag) < (l0.length:Int):=of_decide_eq_true (by assumption);obtain ⟨aj,an,al⟩:=Kd.at_int am.out (ag) ah ai;obtain rfl:ae=aj:=(by injection an);replace ah:=eq_true ah;replace ai:=eq_true ai;go_wp2
            go_roundg k1
            case measure=>have:=ap.out;omega
            case rel=>exact ⟨(wrap64 (aa + 1)),(by rfl),H',⟨by have:=ap.out;omega⟩,by repeat (first|exact Drawn0.refl _|apply Drawn0.step)⟩
          ·rw [if_neg c11] at H;exact absurd H (by simp)
         ·rw [if_neg c10] at H;exact absurd H (by simp)
        ·rw [if_neg c8] at H;have av:decide (0 < aa)=false:=decide_eq_false c8;clear c8;have H':=qK H;clear H;have ab:0≤(aa:Int):=of_decide_eq_true (by assumption);have ac:aa < (l0.length:Int):=of_decide_eq_true (by assumption);obtain ⟨ae,af,ad⟩:=Kd.at_int am.out aa ab ac;cases af
         replace ab:=eq_true ab;replace ac:=eq_true ac;go_wp2
         go_roundg k1
         case measure=>have:=ap.out;omega
         case rel=>exact ⟨(wrap64 (aa + 1)),(by rfl),H',⟨by have:=ap.out;omega⟩,by repeat (first|exact Drawn0.refl _|apply Drawn0.step)⟩
     ·rw [if_neg c5] at H;exact absurd H (by simp)
    ·rw [if_neg c4] at H;exact absurd H (by simp)
   ·rw [if_neg c3] at H;have aq:decide (aa < (l0.length:Int))=false:=decide_eq_false c3;clear c3;obtain rfl:=Option.some.inj H;go_wp2
    go_ret
    exact ⟨by first|rfl|(simp;done)|(simp [*];done),by repeat (first|exact Drawn0.refl _|apply Drawn0.step)⟩

/-! ### spec_l12Size: function 52 -/
mutual
def spec_l12Size.l0 : Nat→List Int→Int→Int→List Int→Int→Int→List Int→List (List Int)→Option (Int)
 | 0,_,_,_,_,_,_,_,_=>none
 | k + 1,x1,x5,x6,x11,x12,x13,x112000,x112001=>if x13 < x12 then (if 0≤x13 then (if x13 < (x11.length:Int) then (if 0≤(rd x11 x13) then (if (rd x11 x13) < (x112000.length:Int) then (if x13≤(x1.length:Int) then (spec_l12Size.l1 k x1 (wrap64 (x5 * (rd x112000 (rd x11 x13)))) x6 (rd x11 x13) x11 x12 x13 (x1.take (x13:Int).toNat) ((x1.take (x13:Int).toNat).length:Int) 0 x112000 x112001) else (none)) else (none)) else (none)) else (none)) else (none)) else (if x6=0 then (none) else (some (wrap64 (Int.tdiv x5 x6))))
def spec_l12Size.l1 : Nat→List Int→Int→Int→Int→List Int→Int→Int→List Int→Int→Int→List Int→List (List Int)→Option (Int)
 | 0,_,_,_,_,_,_,_,_,_,_,_,_=>none
 | k + 1,x1,x5,x6,x8,x11,x12,x13,x27,x28,x29,x112000,x112001=>if x29 < x28 then (if 0≤x29 then (if x29 < (x27.length:Int) then (if 0≤x8 then (if x8 < (x112001.length:Int) then (if 0≤(rd x27 x29) then (if (rd x27 x29) < ((rd_L1 x112001 x8).length:Int) then (spec_l12Size.l1 k x1 x5 (wrap64 (x6 * (rd (rd_L1 x112001 x8) (rd x27 x29)))) x8 x11 x12 x13 x27 x28 (wrap64 (x29 + 1)) x112000 x112001) else (none)) else (none)) else (none)) else (none)) else (none)) else (none)) else (spec_l12Size.l0 k x1 x5 x6 x11 x12 (wrap64 (x13 + 1)) x112000 x112001)
end
def spec_l12Size.f (k:Nat) (l0_0:List Int) (l0_1:List (List Int)) (l1:List Int):Option (Int):=spec_l12Size.l0 k l1 1 1 l1 (l1.length:Int) 0 l0_0 l0_1
theorem spec_l12Size.mono_l : ∀ k,(∀ y0 y1 y2 y3 y4 y5 y6 y7,LeO (spec_l12Size.l0 k y0 y1 y2 y3 y4 y5 y6 y7) (spec_l12Size.l0 (k + 1) y0 y1 y2 y3 y4 y5 y6 y7))∧(∀ y0 y1 y2 y3 y4 y5 y6 y7 y8 y9 ac ad,LeO (spec_l12Size.l1 k y0 y1 y2 y3 y4 y5 y6 y7 y8 y9 ac ad) (spec_l12Size.l1 (k + 1) y0 y1 y2 y3 y4 y5 y6 y7 y8 y9 ac ad))
 | 0=>⟨fun _ _ _ _ _ _ _ _ r h=>by simp [spec_l12Size.l0] at h,fun _ _ _ _ _ _ _ _ _ _ _ _ r h=>by simp [spec_l12Size.l1] at h⟩
 | k + 1=>by
  obtain ⟨aa,ab⟩:=spec_l12Size.mono_l k;refine ⟨?_,?_⟩
  ·intro y0 y1 y2 y3 y4 y5 y6 y7;unfold spec_l12Size.l0
   repeat' first
   | (with_reducible exact aa _ _ _ _ _ _ _ _)
   | (with_reducible exact ab _ _ _ _ _ _ _ _ _ _ _ _)
   | (with_reducible exact LeO.refl _)
   | (with_reducible exact LeO.none _)
   | (with_reducible refine LeO.ite ?_ ?_)
   | (with_reducible refine LeO.bind ?_ (fun _=>?_))
   | exact aa _ _ _ _ _ _ _ _
   | exact ab _ _ _ _ _ _ _ _ _ _ _ _
   | exact LeO.none _
   | refine LeO.ite ?_ ?_
   | refine LeO.bind ?_ (fun _=>?_)
  ·intro y0 y1 y2 y3 y4 y5 y6 y7 y8 y9 ac ad;unfold spec_l12Size.l1
   repeat' first
   | (with_reducible exact aa _ _ _ _ _ _ _ _)
   | (with_reducible exact ab _ _ _ _ _ _ _ _ _ _ _ _)
   | (with_reducible exact LeO.refl _)
   | (with_reducible exact LeO.none _)
   | (with_reducible refine LeO.ite ?_ ?_)
   | (with_reducible refine LeO.bind ?_ (fun _=>?_))
   | exact aa _ _ _ _ _ _ _ _
   | exact ab _ _ _ _ _ _ _ _ _ _ _ _
   | exact LeO.none _
   | refine LeO.ite ?_ ?_
   | refine LeO.bind ?_ (fun _=>?_)
theorem spec_l12Size.mono : ∀ a0 a1 a2 k,LeO (spec_l12Size.f k a0 a1 a2) (spec_l12Size.f (k + 1) a0 a1 a2):=by
 intro a0 a1 a2 k;obtain ⟨aa,ab⟩:=spec_l12Size.mono_l k;unfold spec_l12Size.f
 repeat' first
   | (with_reducible exact aa _ _ _ _ _ _ _ _)
   | (with_reducible exact ab _ _ _ _ _ _ _ _ _ _ _ _)
   | (with_reducible exact LeO.refl _)
   | (with_reducible exact LeO.none _)
   | (with_reducible refine LeO.ite ?_ ?_)
   | (with_reducible refine LeO.bind ?_ (fun _=>?_))
   | exact aa _ _ _ _ _ _ _ _
   | exact ab _ _ _ _ _ _ _ _ _ _ _ _
   | exact LeO.none _
   | refine LeO.ite ?_ ?_
   | refine LeO.bind ?_ (fun _=>?_)
set_option maxHeartbeats 8000000 in
set_option maxRecDepth 100000 in
theorem spec_l12Size.calls (k:Nat) (ar:Option Addr) (al:Nat) (ae:List Int) (am:Option Addr) (an:Nat) (ad:List (List Int)) (A1:Option Addr) (c1:Nat) (l1:List Int) (r:Int) (w:World) (aH:Kd.C (Kd.int .i64) w ar ae.length ae) (aI:ae.length≤al) (aJ:Kd.C (Kd.slice 3 (Kd.int .i64)) w am ad.length ad) (aK:ad.length≤an) (bG:Kd.C (Kd.int .i64) w A1 l1.length l1) (bH:l1.length≤c1) (h:spec_l12Size.f k ae ad l1=some r) :
  Calls Try.prog 52 #[.agg #[.slice ar ae.length al,.slice am ad.length an],.slice A1 l1.length c1] w fun e w'=>e=.returned (.int .i64 r)∧Below w.heap.size w w':=by
 have ca:=Try.underlying29;have bb:=qK aH;have bI:=qK aI;clear aH aI;have bc:=qK aJ;have bJ:=qK aK;clear aJ aK;have bK:=qK bG;have cb:=qK bH;clear bG bH;have HB:=qK (Below.refl w.heap.size w);have H:(spec_l12Size.l0 k l1 1 1 l1 (l1.length:Int) 0 ae ad)=some r:=h;clear h;have H':=qK H;clear H;go_enter Try.func52,Try.ntmps52
 go_wp2_with (first|((with_reducible refine gate_dst (N:=2) rfl ?_);refine box_event ?hg (N:=2) ?hd (cs:=#[.slice ar ae.length al,.slice am ad.length an]) (t:=29) ?hr ?_;(case hd=>rfl);(case hg=>rfl);(case hr=>(go_simp;try rfl));intro ah hg w3 hbox hb;have bL:=qK (qT HB.out hb);have bM:=qK (hbox);have bs:=qK ((by rw [hg];exact (qZ HB.out):w.heap.size≤ah));have bN:=bs;clear HB;have HB:=bL;have ac:=bM;have bO:=bs;have bP:=bN;clear bL bM bs bN;clear hb hbox hg))
 go_loopg [5,6,13] k (fun kq v5 v6 cc w'=>∃ (au:Int) (ao:Int) (aa:Int),v5=.int .i64 au∧v6=.int .i64 ao∧cc=.int .i64 aa∧Aside0 (spec_l12Size.l0 kq l1 au ao l1 (l1.length:Int) aa ae ad=some r)∧Aside0 (kq≤k)∧Aside0 (w'.heap[ah]?=some (.cells #[(.slice ar ae.length al),(.slice am ad.length an)] 29 (0,0)))∧Aside0 (Below w.heap.size w w'))
 case atStart=>exact ⟨(1),(1),(0),(by rfl),(by rfl),(by rfl),H',⟨Nat.le_refl _⟩,⟨ac.out⟩,⟨HB.out⟩⟩
 case round =>
  clear H';try clear c1
  try clear p2
  obtain ⟨au,ao,aa,rfl,rfl,rfl,HA,bl,ac,HB⟩:=hrel;cases gk with
  | zero=>exact absurd HA.out (by simp [spec_l12Size.l0])
  | succ k1 =>
   have H:=HA.out;clear HA;simp only [spec_l12Size.l0] at H;by_cases c4:aa < (l1.length:Int)
   ·rw [if_pos c4] at H;have bd:decide (aa < (l1.length:Int))=true:=decide_eq_true c4;clear c4;by_cases c5:0≤aa
    ·rw [if_pos c5] at H;have bt:decide (0≤aa)=true:=decide_eq_true c5;clear c5;by_cases c6:aa < (l1.length:Int)
     ·rw [if_pos c6] at H;have bu:decide (aa < (l1.length:Int))=true:=decide_eq_true c6;clear c6;by_cases c7:0≤(rd l1 aa)
      ·rw [if_pos c7] at H;have bv:decide (0≤(rd l1 aa))=true:=decide_eq_true c7;clear c7;by_cases c8:(rd l1 aa) < (ae.length:Int)
       ·rw [if_pos c8] at H;have bw:decide ((rd l1 aa) < (ae.length:Int))=true:=decide_eq_true c8;clear c8;have bx:=eq_true (of_decide_eq_true (by assumption):0≤aa);by_cases c10:aa≤(l1.length:Int)
        ·rw [if_pos c10] at H;have be:=eq_true c10;have bf:decide (aa≤(l1.length:Int))=true:=decide_eq_true c10;clear c10;have H':=qK H;clear H;have aw:0≤(aa:Int):=of_decide_eq_true (by assumption);have ax:aa < (l1.length:Int):=of_decide_eq_true (by assumption);obtain ⟨aM,bz,af⟩:=Kd.at_int bK.out aa aw ax;cases bz
         replace af:=(HB.out.cell (World.block_lt_of_cell? w _ af)).trans af;replace aw:=eq_true aw;replace ax:=eq_true ax;have ay:wr.cell? ⟨ah,0,none⟩=some (.slice ar ae.length al):=(qC ac.out 0).trans rfl;have az:wr.cell? ⟨ah,1,none⟩=some (.slice am ad.length an):=(qC ac.out 1).trans rfl;have aA:=qF ac.out 0;have aC:=qF ac.out 1;have aD:0≤((rd l1 aa):Int):=of_decide_eq_true (by assumption);have aE:(rd l1 aa) < (ae.length:Int):=of_decide_eq_true (by assumption);obtain ⟨aN,bA,ag⟩:=Kd.at_int bb.out (rd l1 aa) aD aE;cases bA
         replace ag:=(HB.out.cell (World.block_lt_of_cell? w _ ag)).trans ag;replace aD:=eq_true aD;replace aE:=eq_true aE;obtain ⟨i012,aQ,_,aT,_⟩:=info_parts info3;obtain ⟨hcut12,bg,bh⟩:=print_take_of (P:=Try.prog) (Value.int .i64) 0 22 3 .i64 Try.underlying22 aQ aT (some aM) c1 l1 aa (of_decide_eq_true (by assumption)) (of_decide_eq_true (by assumption)) cb.out;have aU:=qK (Kd.C_of_reads (h1:=fun _=>rfl) (bg _ (Kd.reads_of_C bK.out)));have bi:=qK bh;clear bg bh aQ aT;obtain ⟨yc_, hyc_⟩ : ∃ y_ : List Int, y_ = l1.take (aa:Int).toNat := ⟨_, rfl⟩;rw [← hyc_] at H' hcut12 aU bi;have Nyc_ := Aside0.mk hyc_;clear hyc_;go_wp2
         go_loopg [6,29] k1 (fun kq v6 cd w'=>∃ (av:Int) (ab:Int),v6=.int .i64 av∧cd=.int .i64 ab∧Aside0 (spec_l12Size.l1 kq l1 (wrap64 (au * (rd ae (rd l1 aa)))) av (rd l1 aa) l1 (l1.length:Int) aa yc_ (yc_.length:Int) ab ae ad=some r)∧Aside0 (kq≤k1)∧Aside0 (w'.heap[ah]?=some (.cells #[(.slice (some aN) ae.length al),(.slice am ad.length an)] 29 (0,0)))∧Aside0 (Below w.heap.size w w'))
         case atStart=>exact ⟨(ao),(0),(by rfl),(by rfl),H',⟨Nat.le_refl _⟩,⟨ac.out⟩,⟨HB.out⟩⟩
         case round =>
          clear H';try clear c1
          try clear p1
          try clear q1
          try clear hx1
          try clear p2
          try clear c4
          try clear bd
          try clear c5
          try clear bt
          try clear c6
          try clear bu
          try clear p6
          try clear c7
          try clear bv
          try clear c8
          try clear bw
          try clear c9
          try clear bx
          try clear c10
          try clear be
          try clear bf
          try clear p11
          try clear q11
          try clear hx11
          try clear ay
          try clear az
          try clear aA
          try clear aC
          try clear af
          try clear ag
          try clear aw
          try clear aD
          try clear p2
          try clear ax
          try clear aE
          obtain ⟨av,ab,rfl,rfl,HA,bm,ac,HB⟩:=hrel;cases gk with
          | zero=>exact absurd HA.out (by simp [spec_l12Size.l1])
          | succ k2 =>
           have H:=HA.out;clear HA;simp only [spec_l12Size.l1] at H;by_cases c13:ab < (yc_.length:Int)
           ·rw [if_pos c13] at H;have bj:decide (ab < (yc_.length:Int))=true:=decide_eq_true c13;clear c13;by_cases c14:0≤ab
            ·rw [if_pos c14] at H;have bQ:decide (0≤ab)=true:=decide_eq_true c14;clear c14;by_cases c15:ab < (yc_.length:Int)
             ·rw [if_pos c15] at H;have bR:decide (ab < (yc_.length:Int))=true:=decide_eq_true c15;clear c15;by_cases c16:0≤(rd l1 aa)
              ·rw [if_pos c16] at H;have bS:decide (0≤(rd l1 aa))=true:=decide_eq_true c16;clear c16;by_cases c17:(rd l1 aa) < (ad.length:Int)
               ·rw [if_pos c17] at H;have bT:decide ((rd l1 aa) < (ad.length:Int))=true:=decide_eq_true c17;clear c17;by_cases c18:0≤(rd yc_ ab)
                ·rw [if_pos c18] at H;have bU:decide (0≤(rd yc_ ab))=true:=decide_eq_true c18;clear c18;by_cases c19:(rd yc_ ab) < ((rd_L1 ad (rd l1 aa)).length:Int)
                 ·rw [if_pos c19] at H;have bV:decide ((rd yc_ ab) < ((rd_L1 ad (rd l1 aa)).length:Int))=true:=decide_eq_true c19;clear c19;have H':=qK H;clear H;have aV:0≤(ab:Int):=of_decide_eq_true (by assumption);have aW:ab < (yc_.length:Int):=of_decide_eq_true (by assumption);obtain ⟨bk,bB,ai⟩:=Kd.at_int aU.out ab aV aW;obtain rfl:aM=bk:=(by injection bB);replace ai:=(HB.out.cell (World.block_lt_of_cell? w _ ai)).trans ai;replace aV:=eq_true aV;replace aW:=eq_true aW;have bn:wr.cell? ⟨ah,0,none⟩=some (.slice (some aN) ae.length al):=(qC ac.out 0).trans rfl;have bo:wr.cell? ⟨ah,1,none⟩=some (.slice am ad.length an):=(qC ac.out 1).trans rfl;have bp:=qF ac.out 0;have bq:=qF ac.out 1;have aX:0≤((rd l1 aa):Int):=of_decide_eq_true (by assumption);have aY:(rd l1 aa) < (ad.length:Int):=of_decide_eq_true (by assumption);obtain ⟨bW,bC,bD,bE,aj,ap,aq⟩:=at_L1 bc.out (rd l1 aa) aX aY;cases bE
                  replace aj:=(HB.out.cell (World.block_lt_of_cell? w _ aj)).trans aj;have aG:=qK aq;have br:=qK ap;clear aq ap;replace aX:=eq_true aX;replace aY:=eq_true aY;have aZ:0≤((rd yc_ ab):Int):=of_decide_eq_true (by assumption);have ba:(rd yc_ ab) < ((rd_L1 ad (rd l1 aa)).length:Int):=of_decide_eq_true (by assumption);obtain ⟨bX,bF,ak⟩:=Kd.at_int aG.out (rd yc_ ab) aZ ba;cases bF
                  replace ak:=(HB.out.cell (World.block_lt_of_cell? w _ ak)).trans ak;replace aZ:=eq_true aZ;replace ba:=eq_true ba;go_wp2
                  go_roundg k2
                  case measure=>have:=bl.out;have:=bm.out;omega
                  case rel=>exact ⟨(wrap64 (av * (rd (rd_L1 ad (rd l1 aa)) (rd yc_ ab)))),(wrap64 (ab + 1)),(by rfl),(by rfl),H',⟨by have:=bl.out;have:=bm.out;omega⟩,⟨ac.out⟩,⟨HB.out⟩⟩
                 ·rw [if_neg c19] at H;exact absurd H (by simp)
                ·rw [if_neg c18] at H;exact absurd H (by simp)
               ·rw [if_neg c17] at H;exact absurd H (by simp)
              ·rw [if_neg c16] at H;exact absurd H (by simp)
             ·rw [if_neg c15] at H;exact absurd H (by simp)
            ·rw [if_neg c14] at H;exact absurd H (by simp)
           ·rw [if_neg c13] at H;have bj:decide (ab < (yc_.length:Int))=false:=decide_eq_false c13;clear c13;have H':=qK H;clear H;go_wp2
            go_roundg k2
            case measure=>have:=bl.out;have:=bm.out;omega
            case rel=>exact ⟨((wrap64 (au * (rd ae (rd l1 aa))))),(av),(wrap64 (aa + 1)),(by rfl),(by rfl),(by rfl),H',⟨by have:=bl.out;have:=bm.out;omega⟩,⟨ac.out⟩,⟨HB.out⟩⟩
        ·rw [if_neg c10] at H;exact absurd H (by simp)
       ·rw [if_neg c8] at H;exact absurd H (by simp)
      ·rw [if_neg c7] at H;exact absurd H (by simp)
     ·rw [if_neg c6] at H;exact absurd H (by simp)
    ·rw [if_neg c5] at H;exact absurd H (by simp)
   ·rw [if_neg c4] at H;have bd:decide (aa < (l1.length:Int))=false:=decide_eq_false c4;clear c4;by_cases c21:ao=0
    ·rw [if_pos c21] at H;exact absurd H (by simp)
    ·rw [if_neg c21] at H;have bY:(ao == 0)=false:=beq_eq_false_iff_ne.mpr c21;have bZ:(ao != 0)=true:=bne_iff_ne.mpr c21;obtain rfl:=Option.some.inj H;go_wp2
     go_ret
     exact ⟨by rfl,HB.out⟩

/-! ### spec_l1Has: function 66 -/
def spec_l1Has.l0 : Nat→Int→List Int→Int→Int→Option (Bool)
 | 0,_,_,_,_=>none
 | k + 1,x1,x7,x8,x9=>if x9 < x8 then (if 0≤x9 then (if x9 < (x7.length:Int) then (if (rd x7 x9)=x1 then (some true) else (spec_l1Has.l0 k x1 x7 x8 (wrap64 (x9 + 1)))) else (none)) else (none)) else (some false)
def spec_l1Has.f (k:Nat) (l0:List Int) (a1:Int):Option (Bool):=spec_l1Has.l0 k a1 l0 (l0.length:Int) 0
theorem spec_l1Has.mono_l : ∀ k,(∀ y0 y1 y2 y3,LeO (spec_l1Has.l0 k y0 y1 y2 y3) (spec_l1Has.l0 (k + 1) y0 y1 y2 y3))
 | 0=>fun _ _ _ _ r h=>by simp [spec_l1Has.l0] at h
 | k + 1=>by
  have aa:=spec_l1Has.mono_l k
  ·intro y0 y1 y2 y3;unfold spec_l1Has.l0
   repeat' first
   | (with_reducible exact aa _ _ _ _)
   | (with_reducible exact LeO.refl _)
   | (with_reducible exact LeO.none _)
   | (with_reducible refine LeO.ite ?_ ?_)
   | (with_reducible refine LeO.bind ?_ (fun _=>?_))
   | exact aa _ _ _ _
   | exact LeO.none _
   | refine LeO.ite ?_ ?_
   | refine LeO.bind ?_ (fun _=>?_)
theorem spec_l1Has.mono : ∀ a0 a1 k,LeO (spec_l1Has.f k a0 a1) (spec_l1Has.f (k + 1) a0 a1):=by
 intro a0 a1 k;have aa:=spec_l1Has.mono_l k;unfold spec_l1Has.f
 repeat' first
   | (with_reducible exact aa _ _ _ _)
   | (with_reducible exact LeO.refl _)
   | (with_reducible exact LeO.none _)
   | (with_reducible refine LeO.ite ?_ ?_)
   | (with_reducible refine LeO.bind ?_ (fun _=>?_))
   | exact aa _ _ _ _
   | exact LeO.none _
   | refine LeO.ite ?_ ?_
   | refine LeO.bind ?_ (fun _=>?_)
set_option maxHeartbeats 8000000 in
set_option maxRecDepth 100000 in
theorem spec_l1Has.calls (k:Nat) (A0:Option Addr) (c0:Nat) (l0:List Int) (a1:Int) (r:Bool) (w:World) (aj:Kd.C (Kd.int .i64) w A0 l0.length l0) (ak:l0.length≤c0) (h:spec_l1Has.f k l0 a1=some r) :
  Calls Try.prog 66 #[.slice A0 l0.length c0,.int .i64 a1] w fun e w'=>e=.returned (.bool r)∧Drawn0 w w':=by
 have al:=qK aj;have ap:=qK ak;clear aj ak;have H:(spec_l1Has.l0 k a1 l0 (l0.length:Int) 0)=some r:=h;clear h;have H':=qK H;clear H;go_enter Try.func66,Try.ntmps66
 go_wp2
 go_loopg [9] k (fun kq v9 w'=>∃ (aa:Int),v9=.int .i64 aa∧Aside0 (spec_l1Has.l0 kq a1 l0 (l0.length:Int) aa=some r)∧Aside0 (kq≤k)∧Drawn0 w w')
 case atStart=>exact ⟨(0),(by rfl),H',⟨Nat.le_refl _⟩,by repeat (first|exact Drawn0.refl _|apply Drawn0.step)⟩
 case round =>
  clear H';try clear p2
  obtain ⟨aa,rfl,HA,am,⟨m1,rfl⟩⟩:=hrel;cases gk with
  | zero=>exact absurd HA.out (by simp [spec_l1Has.l0])
  | succ k1 =>
   have H:=HA.out;clear HA;simp only [spec_l1Has.l0] at H;by_cases c3:aa < (l0.length:Int)
   ·rw [if_pos c3] at H;have ag:decide (aa < (l0.length:Int))=true:=decide_eq_true c3;clear c3;by_cases c4:0≤aa
    ·rw [if_pos c4] at H;have an:decide (0≤aa)=true:=decide_eq_true c4;clear c4;by_cases c5:aa < (l0.length:Int)
     ·rw [if_pos c5] at H;have ao:decide (aa < (l0.length:Int))=true:=decide_eq_true c5;clear c5;by_cases c6:(rd l0 aa)=a1
      ·rw [if_pos c6] at H;have ah:((rd l0 aa) == a1)=true:=beq_iff_eq.mpr c6;have ai:((rd l0 aa) != a1)=false:=bne_eq_false_iff_eq.mpr c6;clear c6;obtain rfl:=Option.some.inj H;have ab:0≤(aa:Int):=of_decide_eq_true (by assumption);have ac:aa < (l0.length:Int):=of_decide_eq_true (by assumption);obtain ⟨af,ae,ad⟩:=Kd.at_int al.out aa ab ac;cases ae
       replace ab:=eq_true ab;replace ac:=eq_true ac;go_wp2
       go_ret
       exact ⟨by first|rfl|(simp;done)|(simp [*];done),by repeat (first|exact Drawn0.refl _|apply Drawn0.step)⟩
      ·rw [if_neg c6] at H;have ah:((rd l0 aa) == a1)=false:=beq_eq_false_iff_ne.mpr c6;have ai:((rd l0 aa) != a1)=true:=bne_iff_ne.mpr c6;have H':=qK H;clear H;have ab:0≤(aa:Int):=of_decide_eq_true (by assumption);have ac:aa < (l0.length:Int):=of_decide_eq_true (by assumption);obtain ⟨af,ae,ad⟩:=Kd.at_int al.out aa ab ac;cases ae
       replace ab:=eq_true ab;replace ac:=eq_true ac;go_wp2
       go_roundg k1
       case measure=>have:=am.out;omega
       case rel=>exact ⟨(wrap64 (aa + 1)),(by rfl),H',⟨by have:=am.out;omega⟩,by repeat (first|exact Drawn0.refl _|apply Drawn0.step)⟩
     ·rw [if_neg c5] at H;exact absurd H (by simp)
    ·rw [if_neg c4] at H;exact absurd H (by simp)
   ·rw [if_neg c3] at H;have ag:decide (aa < (l0.length:Int))=false:=decide_eq_false c3;clear c3;obtain rfl:=Option.some.inj H;go_wp2
    go_ret
    exact ⟨by first|rfl|(simp;done)|(simp [*];done),by repeat (first|exact Drawn0.refl _|apply Drawn0.step)⟩

/-! ### spec_l7Put: function 55 -/
def spec_l7Put.l0 : Nat→List Int→Int→Int→Option (List Int)
 | 0,_,_,_=>none
 | k + 1,x0,x1,x5=>if x5 < (x0.length:Int) then (if 0≤x5 then (if (rd x0 x5) < x1 then (spec_l7Put.l0 k x0 x1 (wrap64 (x5 + 1))) else (if x5≤(x0.length:Int) then ((some (x0.take (x5:Int).toNat:List Int)).bind fun y121=>(if ([]:List Int).length + y121.length < 17592186044416 then ((some (([]:List Int) ++ y121:List Int)).bind fun y126=>(if y126.length < 17592186044416 then ((some (y126 ++ [x1]:List Int)).bind fun y129=>((some (x0.drop (x5:Int).toNat:List Int)).bind fun y132=>(if y129.length + y132.length < 17592186044416 then (some (y129 ++ y132)) else (none)))) else (none))) else (none))) else (none))) else (none)) else (if 0≤x5 then (if x5≤(x0.length:Int) then ((some (x0.take (x5:Int).toNat:List Int)).bind fun y140=>(if ([]:List Int).length + y140.length < 17592186044416 then ((some (([]:List Int) ++ y140:List Int)).bind fun y145=>(if y145.length < 17592186044416 then ((some (y145 ++ [x1]:List Int)).bind fun y148=>((some (x0.drop (x5:Int).toNat:List Int)).bind fun y151=>(if y148.length + y151.length < 17592186044416 then (some (y148 ++ y151)) else (none)))) else (none))) else (none))) else (none)) else (none))
def spec_l7Put.f (k:Nat) (l0:List Int) (a1:Int):Option (List Int):=(spec_l1Has.f k l0 a1).bind fun t119=>(if t119=true then (some l0) else (spec_l7Put.l0 k l0 a1 0))
theorem spec_l7Put.mono_l : ∀ k,(∀ y0 y1 y2,LeO (spec_l7Put.l0 k y0 y1 y2) (spec_l7Put.l0 (k + 1) y0 y1 y2))
 | 0=>fun _ _ _ r h=>by simp [spec_l7Put.l0] at h
 | k + 1=>by
  have aa:=spec_l7Put.mono_l k
  ·intro y0 y1 y2;unfold spec_l7Put.l0
   repeat' first
   | (with_reducible exact aa _ _ _)
   | (with_reducible exact spec_l1Has.mono _ _ _)
   | (with_reducible exact LeO.refl _)
   | (with_reducible exact LeO.none _)
   | (with_reducible refine LeO.ite ?_ ?_)
   | (with_reducible refine LeO.bind ?_ (fun _=>?_))
   | exact aa _ _ _
   | exact spec_l1Has.mono _ _ _
   | exact LeO.none _
   | refine LeO.ite ?_ ?_
   | refine LeO.bind ?_ (fun _=>?_)
theorem spec_l7Put.mono : ∀ a0 a1 k,LeO (spec_l7Put.f k a0 a1) (spec_l7Put.f (k + 1) a0 a1):=by
 intro a0 a1 k;have aa:=spec_l7Put.mono_l k;unfold spec_l7Put.f
 repeat' first
   | (with_reducible exact aa _ _ _)
   | (with_reducible exact spec_l1Has.mono _ _ _)
   | (with_reducible exact LeO.refl _)
   | (with_reducible exact LeO.none _)
   | (with_reducible refine LeO.ite ?_ ?_)
   | (with_reducible refine LeO.bind ?_ (fun _=>?_))
   | exact aa _ _ _
   | exact spec_l1Has.mono _ _ _
   | exact LeO.none _
   | refine LeO.ite ?_ ?_
   | refine LeO.bind ?_ (fun _=>?_)
set_option maxHeartbeats 8000000 in
set_option maxRecDepth 100000 in
theorem spec_l7Put.calls (k:Nat) (aI:Nat→Prop) (A0:Option Addr) (c0:Nat) (l0:List Int) (a1:Int) (r:List Int) (w:World) (cx:Kd.V (Kd.int .i64) 3 w w.heap.size (fun k_=>aI k_) (.slice A0 l0.length c0) l0) (h:spec_l7Put.f k l0 a1=some r) :
  Calls Try.prog 55 #[.slice A0 l0.length c0,.int .i64 a1] w fun e w'=>∃ cf:Value,e=.returned (cf)∧Kd.V (Kd.int .i64) 3 w' w.heap.size (fun k_=>(aI k_ ∨ w.heap.size≤k_)) cf r∧Below w.heap.size w w':=by
 have bt:=qK (show Kd.V (Kd.int .i64) 3 w w.heap.size (fun k_=>(aI k_ ∨ w.heap.size≤k_)) (.slice A0 l0.length c0) l0 from Kd.V_mono cx (fun k_ hk=>.inl hk));have HB:=qK (Below.refl w.heap.size w);have H:((spec_l1Has.f k l0 a1).bind fun aU=>(if aU=true then (some l0) else (spec_l7Put.l0 k l0 a1 0)))=some r:=h;clear h;replace H:=Option.bind_eq_some_iff.mp H;obtain ⟨aU,bu,H⟩:=H;replace H:(if aU=true then (some l0) else (spec_l7Put.l0 k l0 a1 0))=some r:=H;have A3:=qK bu;clear bu;by_cases c4:aU=true
 ·subst c4;have H1:(some l0)=some r:=by rw [if_pos rfl] at H;exact H
  clear H;have H:=H1;clear H1;obtain rfl:=Option.some.inj H;go_enter Try.func55,Try.ntmps55
  go_wp2_with (first|((with_reducible refine gate_callee (f:=66) rfl ?_);refine goesL_ (some 9) rfl rfl Try.func66 (by kernel_rfl) rfl #[.slice A0 l0.length c0,.int .i64 a1] rfl (by (try simp only [mT,mC,mN]);first|done|rfl|(simp only [lD,lT];rfl)) ?_;(with_reducible refine (spec_l1Has.calls k _ _ l0 a1 true _ ?side1 ?side2 A3.out).mono ?_);(case side1=>exact (Kd.V_reads' bt.out).2.2);(case side2=>exact (Kd.V_reads' bt.out).2.1);rintro e w' ⟨rfl,⟨nd,rfl⟩⟩;refine ⟨_,rfl,?_⟩))
  go_ret
  exact ⟨_,by rfl,bt.out,by repeat (first|(with_reducible first|exact HB.out|apply qA|apply qD|apply qO)|exact HB.out)⟩
 ·replace c4:=Bool.eq_false_iff.mpr c4;subst c4;have H1:(spec_l7Put.l0 k l0 a1 0)=some r:=by rw [if_neg (show ¬ (false=true) by decide)] at H;exact H
  clear H;have H:=H1;clear H1;have H':=qK H;clear H;go_enter Try.func55,Try.ntmps55
  go_wp2_with (first|((with_reducible refine gate_callee (f:=66) rfl ?_);refine goesL_ (some 9) rfl rfl Try.func66 (by kernel_rfl) rfl #[.slice A0 l0.length c0,.int .i64 a1] rfl (by (try simp only [mT,mC,mN]);first|done|rfl|(simp only [lD,lT];rfl)) ?_;(with_reducible refine (spec_l1Has.calls k _ _ l0 a1 false _ ?side1 ?side2 A3.out).mono ?_);(case side1=>exact (Kd.V_reads' bt.out).2.2);(case side2=>exact (Kd.V_reads' bt.out).2.1);rintro e w' ⟨rfl,⟨nd,rfl⟩⟩;refine ⟨_,rfl,?_⟩))
  go_loopg [5] k (fun kq v5 w'=>∃ (aa:Int),v5=.int .i64 aa∧Aside0 (spec_l7Put.l0 kq l0 a1 aa=some r)∧Aside0 (kq≤k)∧Aside0 (Kd.V (Kd.int .i64) 3 w' w.heap.size (fun k_=>(aI k_ ∨ w.heap.size≤k_)) (.slice A0 l0.length c0) l0)∧Aside0 (Below w.heap.size w w'))
  case atStart=>exact ⟨(0),(by rfl),H',⟨Nat.le_refl _⟩,⟨bt.out⟩,⟨by repeat (first|(with_reducible first|exact HB.out|apply qA|apply qD|apply qO)|exact HB.out)⟩⟩
  case round =>
   clear H';try clear p2
   try clear c4
   obtain ⟨aa,rfl,HA,cg,ab,HB⟩:=hrel;cases gk with
   | zero=>exact absurd HA.out (by simp [spec_l7Put.l0])
   | succ k1 =>
    have H:=HA.out;clear HA;simp only [spec_l7Put.l0] at H;by_cases c5:aa < (l0.length:Int)
    ·rw [if_pos c5] at H;have bR:decide (aa < (l0.length:Int))=true:=decide_eq_true c5;clear c5;by_cases c6:0≤aa
     ·rw [if_pos c6] at H;have cy:decide (0≤aa)=true:=decide_eq_true c6;clear c6;by_cases c7:(rd l0 aa) < a1
      ·rw [if_pos c7] at H;have bS:decide ((rd l0 aa) < a1)=true:=decide_eq_true c7;clear c7;have H':=qK H;clear H;have aG:0≤(aa:Int):=of_decide_eq_true (by assumption);have aH:aa < (l0.length:Int):=of_decide_eq_true (by assumption);obtain ⟨aj,bo,aV⟩:=Kd.at_int (Kd.V_reads' ab.out).2.2 aa aG aH;cases bo
       replace aG:=eq_true aG;replace aH:=eq_true aH;go_wp2
       go_roundg k1
       case measure=>have:=cg.out;omega
       case rel=>exact ⟨(wrap64 (aa + 1)),(by rfl),H',⟨by have:=cg.out;omega⟩,⟨ab.out⟩,⟨HB.out⟩⟩
      ·rw [if_neg c7] at H;have bS:decide ((rd l0 aa) < a1)=false:=decide_eq_false c7;clear c7;have cz:=eq_true (of_decide_eq_true (by assumption):0≤aa);by_cases c9:aa≤(l0.length:Int)
       ·rw [if_pos c9] at H;have cA:=eq_true c9;have cC:decide (aa≤(l0.length:Int))=true:=decide_eq_true c9;clear c9;obtain ⟨ak,am⟩:∃ y_:List Int,y_=(l0.take (aa:Int).toNat):=⟨_,rfl⟩;replace H:(if ([]:List Int).length + ak.length < 17592186044416 then ((some (([]:List Int) ++ ak:List Int)).bind fun an=>(if an.length < 17592186044416 then ((some (an ++ [a1]:List Int)).bind fun ah=>((some (l0.drop (aa:Int).toNat:List Int)).bind fun ac=>(if ah.length + ac.length < 17592186044416 then (some (ah ++ ac)) else (none)))) else (none))) else (none))=some r:=by first|(rw [am];with_reducible exact H)|(have ae:=(Option.bind_some _ _).symm.trans H;rw [am];with_reducible exact ae)|(have ae:=(Option.bind_some _ _).symm.trans H;with_reducible exact ae)|with_reducible exact H|(rw [am];exact H)|exact H
        have ba:=qK am;clear am;by_cases c10:([]:List Int).length + ak.length < 17592186044416
        ·rw [if_pos c10] at H;have bv:=qK c10;clear c10;obtain ⟨an,ao⟩:∃ y_:List Int,y_=(([]:List Int) ++ ak):=⟨_,rfl⟩;replace H:(if an.length < 17592186044416 then ((some (an ++ [a1]:List Int)).bind fun ah=>((some (l0.drop (aa:Int).toNat:List Int)).bind fun ac=>(if ah.length + ac.length < 17592186044416 then (some (ah ++ ac)) else (none)))) else (none))=some r:=by first|(rw [ao];with_reducible exact H)|(have ae:=(Option.bind_some _ _).symm.trans H;rw [ao];with_reducible exact ae)|(have ae:=(Option.bind_some _ _).symm.trans H;with_reducible exact ae)|with_reducible exact H|(rw [ao];exact H)|exact H
         have bw:=qK ao;clear ao;by_cases c11:an.length < 17592186044416
         ·rw [if_pos c11] at H;have bx:=qK c11;clear c11;obtain ⟨ah,ap⟩:∃ y_:List Int,y_=(an ++ [a1]):=⟨_,rfl⟩;replace H:((some (l0.drop (aa:Int).toNat:List Int)).bind fun ac=>(if ah.length + ac.length < 17592186044416 then (some (ah ++ ac)) else (none)))=some r:=by first|(rw [ap];with_reducible exact H)|(have ae:=(Option.bind_some _ _).symm.trans H;rw [ap];with_reducible exact ae)|(have ae:=(Option.bind_some _ _).symm.trans H;with_reducible exact ae)|with_reducible exact H|(rw [ap];exact H)|exact H
          have bz:=qK ap;clear ap;have ch:=eq_true (of_decide_eq_true (by assumption):0≤aa);have ci:=eq_true (of_decide_eq_true (by assumption):aa≤(l0.length:Int));obtain ⟨ac,aq⟩:∃ y_:List Int,y_=(l0.drop (aa:Int).toNat):=⟨_,rfl⟩;replace H:(if ah.length + ac.length < 17592186044416 then (some (ah ++ ac)) else (none))=some r:=by first|(rw [aq];with_reducible exact H)|(have ae:=(Option.bind_some _ _).symm.trans H;rw [aq];with_reducible exact ae)|(have ae:=(Option.bind_some _ _).symm.trans H;with_reducible exact ae)|with_reducible exact H|(rw [aq];exact H)|exact H
          have bb:=qK aq;clear aq;by_cases c14:ah.length + ac.length < 17592186044416
          ·rw [if_pos c14] at H;have bA:=qK c14;clear c14;obtain ⟨bT,ar⟩:∃ y_:List Int,y_=(ah ++ ac):=⟨_,rfl⟩;replace H:(some bT)=some r:=by first|(rw [ar];with_reducible exact H)|(have ae:=(Option.bind_some _ _).symm.trans H;rw [ar];with_reducible exact ae)|(have ae:=(Option.bind_some _ _).symm.trans H;with_reducible exact ae)|with_reducible exact H|(rw [ar];exact H)|exact H
           have bB:=qK ar;clear ar;obtain rfl:=Option.some.inj H;have aG:0≤(aa:Int):=of_decide_eq_true (by assumption);have aH:aa < (l0.length:Int):=of_decide_eq_true (by assumption);obtain ⟨aj,bo,aV⟩:=Kd.at_int (Kd.V_reads' ab.out).2.2 aa aG aH;cases bo
           replace aG:=eq_true aG;replace aH:=eq_true aH;have bU:(aa:Int)≤((l0.length:Int):Int):=of_decide_eq_true (by assumption);obtain ⟨i015,bc,_,bC,_⟩:=info_parts info3;have hroom15:l0.length≤c0:=(Kd.V_reads' ab.out).2.1;have bD:Kd.F (Kd.int .i64) _ _ (some aj) l0.length l0:=(Kd.V_at (base:=w.heap.size) ab.out).2.2;have hcut15:=cut_to (P:=Try.prog) 22 3 .i64 Try.underlying22 bc (some aj) l0.length c0 aa (of_decide_eq_true (by assumption)) bU hroom15;have bp:=Kd.F_take (m:=(aa:Int).toNat) bD (by omega);have bq:ak.length=(aa:Int).toNat:=(by rw [ba.out,lT];omega);rw [← ba.out] at bp;rw [← bq] at hcut15;have af:=qK (show Kd.V (Kd.int .i64) 3 _ w.heap.size _ (.slice (some aj) ak.length c0) ak from Kd.V_mk (by omega) bp);have cj:=qK (show ak.length≤c0 from by omega);clear bp bD hroom15 bc bC;have cD:=qK bq;clear bq;replace bU:=eq_true bU;go_wp2_with (first|((with_reducible refine gate_builtin (b:=.append) (xs:=#[.tmp 25,.tmp 28]) rfl ?_);at_builtin;refine Kd.R_append_rows (Kd.int .i64) (w0:=w) w.heap.size rfl (.tmp 25) (.tmp 28) 22 3 (.int .i64 0) 8 rfl Try.underlying22 info3 rfl (by decide) (by omega) (.slice none 0 0) ([]:List Int) ak _ _ _ (fun k_=>(w.heap.size≤k_)) (fun _=>False) rfl rfl ?aO ?aR (fun _ _ h=>h) (fun _ h=>h.elim) ?aF ?aB ?aS ?aL ?_;(case aR=>repeat (first|exact (Kd.V_reads' af.out).2.2|(with_reducible first|refine cL ?_ _|refine cN ?_ _|refine cW ?_)));(case aB=>exact HB.out);(case aF=>exact (fun k_ hk=>(Nat.le_trans (qZ HB.out) hk)));(case aO=>exact ((Kd.R_nil _ _ _ _ (fun k_=>(w.heap.size≤k_)))));(case aS=>exact (qZ HB.out));(case aL=>have:=bv.out;omega);intro bV cM ho hb hg hat;rw [← bw.out] at ho;have au:=qK (Kd.V_afterv (Kd.V_apart_nil ab.out) hg hat);have av:=qK (Kd.V_afterv (Kd.V_apart_nil af.out) hg hat);have aw:=qK (hb);have ax:=qK (ho);clear ab af HB;have ab:=au;have af:=av;have HB:=aw;have bd:=ax;clear au av aw ax;clear ho hb hg hat)|((with_reducible refine gate_builtin (b:=.append) (xs:=#[.tmp 30,.tmp 32]) rfl ?_);at_builtin;refine Kd.R_append (Kd.int .i64) (w0:=w) w.heap.size rfl (.tmp 30) (.tmp 32) 22 3 (.int .i64 0) 8 rfl Try.underlying22 info3 rfl (by decide) (by omega) bV an a1 [.int .i64 a1] (fun k_=>(w.heap.size≤k_)) (fun _=>False) rfl rfl ?aP (fun _ hk=>hk.elim) ?aF ?aO ?aB ?aS ?aL ?_;(case aP=>exact rfl);(case aB=>exact HB.out);(case aF=>exact (fun k_ hk=>(Nat.le_trans (qZ HB.out) hk)));(case aO=>exact bd.out);(case aS=>exact (qZ HB.out));(case aL=>have:=bx.out;omega);intro bW cO ho hb hg hat;rw [← bz.out] at ho;have au:=qK (Kd.V_afterv (ok:=(fun k_=>(aI k_ ∨ w.heap.size≤k_))) ab.out hg hat);have av:=qK (Kd.V_afterv (ok:=(fun k_=>(aI k_ ∨ w.heap.size≤k_))) af.out hg hat);have aw:=qK (hb);have ax:=qK (ho);clear ab af HB bd;have ab:=au;have af:=av;have HB:=aw;have be:=ax;clear au av aw ax ho hb hg hat;have bX:(aa:Int)≤((l0.length:Int):Int):=of_decide_eq_true (by assumption);obtain ⟨i018,bf,_,bg,_⟩:=info_parts info3;have hroom18:l0.length≤c0:=(Kd.V_reads' ab.out).2.1;have bE:Kd.F (Kd.int .i64) _ _ (some aj) l0.length l0:=(Kd.V_at (base:=w.heap.size) ab.out).2.2;have bY:(0:Int)≤(aa:Int):=of_decide_eq_true (by assumption);have hcut18:=cut_from (P:=Try.prog) 22 3 .i64 Try.underlying22 bf 1 bg (some aj) l0.length c0 aa bY bX;have aM:=Kd.F_cut (m:=(aa:Int).toNat) (c:=c0) bE (by omega) hroom18;obtain ⟨ck,aW⟩:∃ A1,A1=(if c0=(aa:Int).toNat then (some aj) else ((some aj):Option Addr).map (·.add ((aa:Int).toNat * 1))):=⟨_,rfl⟩;obtain ⟨cl,aX⟩:∃ c1,c1=c0 - (aa:Int).toNat:=⟨_,rfl⟩;have aN:ac.length=l0.length - (aa:Int).toNat:=(by rw [bb.out,lD] <;> omega);rw [show (l0).drop (aa:Int).toNat=ac from bb.out.symm] at aM;replace aM:Kd.F (Kd.int .i64) _ _ ck ac.length ac:=(by rw [aW];exact aM);rw [← aN,← aW,← aX] at hcut18;have aJ:=qK (show Kd.V (Kd.int .i64) 3 _ w.heap.size _ (.slice ck ac.length cl) ac from Kd.V_mk (by rw [aN,aX];exact Nat.sub_le_sub_right hroom18 _) aM);have cm:=qK (show ac.length≤cl from by rw [aN,aX];exact Nat.sub_le_sub_right hroom18 _);clear aM bE hroom18 bf bg aX;have cE:=qK aN;have cF:=qK aW;clear aN aW;replace bX:=eq_true bX)|((with_reducible refine gate_builtin (b:=.append) (xs:=#[.tmp 34,.tmp 37]) rfl ?_);at_builtin;refine Kd.R_append_rows (Kd.int .i64) (w0:=w) w.heap.size rfl (.tmp 34) (.tmp 37) 22 3 (.int .i64 0) 8 rfl Try.underlying22 info3 rfl (by decide) (by omega) bW ah ac _ _ _ (fun k_=>(w.heap.size≤k_)) (fun _=>False) rfl rfl ?aO ?aR (fun _ _ h=>h) (fun _ h=>h.elim) ?aF ?aB ?aS ?aL ?_;(case aR=>repeat (first|exact (Kd.V_reads' aJ.out).2.2|(with_reducible first|refine cL ?_ _|refine cN ?_ _|refine cW ?_)));(case aB=>exact HB.out);(case aF=>exact (fun k_ hk=>(Nat.le_trans (qZ HB.out) hk)));(case aO=>exact be.out);(case aS=>exact (qZ HB.out));(case aL=>have:=bA.out;omega);intro cG cP ho hb hg hat;rw [← bB.out] at ho;have au:=qK (Kd.V_afterv (ok:=(fun k_=>(aI k_ ∨ w.heap.size≤k_))) ab.out hg hat);have av:=qK (Kd.V_afterv (ok:=(fun k_=>(aI k_ ∨ w.heap.size≤k_))) af.out hg hat);have aw:=qK (Kd.V_afterv (ok:=(fun k_=>(aI k_ ∨ w.heap.size≤k_))) aJ.out hg hat);have ax:=qK (hb);have bF:=qK (ho);clear ab af aJ HB be;have ab:=au;have af:=av;have aJ:=aw;have HB:=ax;have bG:=bF;clear au av aw ax bF;clear ho hb hg hat))
           go_ret
           exact ⟨_,by rfl,Kd.V_mono (Kd.R_V bG.out) (fun k_ hk=>by first|exact ⟨(.inr (hk.1)),hk.2⟩|exact (.inr (hk))),HB.out⟩
          ·rw [if_neg c14] at H;exact absurd H (by simp)
         ·rw [if_neg c11] at H;exact absurd H (by simp)
        ·rw [if_neg c10] at H;exact absurd H (by simp)
       ·rw [if_neg c9] at H;exact absurd H (by simp)
     ·rw [if_neg c6] at H;exact absurd H (by simp)
    ·rw [if_neg c5] at H;have bR:decide (aa < (l0.length:Int))=false:=decide_eq_false c5;clear c5;by_cases c20:0≤aa
     ·rw [if_pos c20] at H;have cn:=eq_true c20;have co:decide (0≤aa)=true:=decide_eq_true c20;clear c20;by_cases c21:aa≤(l0.length:Int)
      ·rw [if_pos c21] at H;have cp:=eq_true c21;have cq:decide (aa≤(l0.length:Int))=true:=decide_eq_true c21;clear c21;obtain ⟨al,ay⟩:∃ y_:List Int,y_=(l0.take (aa:Int).toNat):=⟨_,rfl⟩;replace H:(if ([]:List Int).length + al.length < 17592186044416 then ((some (([]:List Int) ++ al:List Int)).bind fun az=>(if az.length < 17592186044416 then ((some (az ++ [a1]:List Int)).bind fun ai=>((some (l0.drop (aa:Int).toNat:List Int)).bind fun ad=>(if ai.length + ad.length < 17592186044416 then (some (ai ++ ad)) else (none)))) else (none))) else (none))=some r:=by first|(rw [ay];with_reducible exact H)|(have ae:=(Option.bind_some _ _).symm.trans H;rw [ay];with_reducible exact ae)|(have ae:=(Option.bind_some _ _).symm.trans H;with_reducible exact ae)|with_reducible exact H|(rw [ay];exact H)|exact H
       have bh:=qK ay;clear ay;by_cases c22:([]:List Int).length + al.length < 17592186044416
       ·rw [if_pos c22] at H;have bH:=qK c22;clear c22;obtain ⟨az,aA⟩:∃ y_:List Int,y_=(([]:List Int) ++ al):=⟨_,rfl⟩;replace H:(if az.length < 17592186044416 then ((some (az ++ [a1]:List Int)).bind fun ai=>((some (l0.drop (aa:Int).toNat:List Int)).bind fun ad=>(if ai.length + ad.length < 17592186044416 then (some (ai ++ ad)) else (none)))) else (none))=some r:=by first|(rw [aA];with_reducible exact H)|(have ae:=(Option.bind_some _ _).symm.trans H;rw [aA];with_reducible exact ae)|(have ae:=(Option.bind_some _ _).symm.trans H;with_reducible exact ae)|with_reducible exact H|(rw [aA];exact H)|exact H
        have bI:=qK aA;clear aA;by_cases c23:az.length < 17592186044416
        ·rw [if_pos c23] at H;have bJ:=qK c23;clear c23;obtain ⟨ai,aC⟩:∃ y_:List Int,y_=(az ++ [a1]):=⟨_,rfl⟩;replace H:((some (l0.drop (aa:Int).toNat:List Int)).bind fun ad=>(if ai.length + ad.length < 17592186044416 then (some (ai ++ ad)) else (none)))=some r:=by first|(rw [aC];with_reducible exact H)|(have ae:=(Option.bind_some _ _).symm.trans H;rw [aC];with_reducible exact ae)|(have ae:=(Option.bind_some _ _).symm.trans H;with_reducible exact ae)|with_reducible exact H|(rw [aC];exact H)|exact H
         have bK:=qK aC;clear aC;have cr:=eq_true (of_decide_eq_true (by assumption):0≤aa);have ct:=eq_true (of_decide_eq_true (by assumption):aa≤(l0.length:Int));obtain ⟨ad,aD⟩:∃ y_:List Int,y_=(l0.drop (aa:Int).toNat):=⟨_,rfl⟩;replace H:(if ai.length + ad.length < 17592186044416 then (some (ai ++ ad)) else (none))=some r:=by first|(rw [aD];with_reducible exact H)|(have ae:=(Option.bind_some _ _).symm.trans H;rw [aD];with_reducible exact ae)|(have ae:=(Option.bind_some _ _).symm.trans H;with_reducible exact ae)|with_reducible exact H|(rw [aD];exact H)|exact H
         have bi:=qK aD;clear aD;by_cases c26:ai.length + ad.length < 17592186044416
         ·rw [if_pos c26] at H;have bL:=qK c26;clear c26;obtain ⟨bZ,aE⟩:∃ y_:List Int,y_=(ai ++ ad):=⟨_,rfl⟩;replace H:(some bZ)=some r:=by first|(rw [aE];with_reducible exact H)|(have ae:=(Option.bind_some _ _).symm.trans H;rw [aE];with_reducible exact ae)|(have ae:=(Option.bind_some _ _).symm.trans H;with_reducible exact ae)|with_reducible exact H|(rw [aE];exact H)|exact H
          have bM:=qK aE;clear aE;obtain rfl:=Option.some.inj H;have ca:(aa:Int)≤((l0.length:Int):Int):=of_decide_eq_true (by assumption);obtain ⟨i027,bj,_,bN,_⟩:=info_parts info3;have hroom27:l0.length≤c0:=(Kd.V_reads' ab.out).2.1;have bO:Kd.F (Kd.int .i64) _ _ A0 l0.length l0:=(Kd.V_at (base:=w.heap.size) ab.out).2.2;have hcut27:=cut_to (P:=Try.prog) 22 3 .i64 Try.underlying22 bj A0 l0.length c0 aa (of_decide_eq_true (by assumption)) ca hroom27;have br:=Kd.F_take (m:=(aa:Int).toNat) bO (by omega);have bs:al.length=(aa:Int).toNat:=(by rw [bh.out,lT];omega);rw [← bh.out] at br;rw [← bs] at hcut27;have ag:=qK (show Kd.V (Kd.int .i64) 3 _ w.heap.size _ (.slice A0 al.length c0) al from Kd.V_mk (by omega) br);have cu:=qK (show al.length≤c0 from by omega);clear br bO hroom27 bj bN;have cH:=qK bs;clear bs;replace ca:=eq_true ca;go_wp2_with (first|((with_reducible refine gate_builtin (b:=.append) (xs:=#[.tmp 25,.tmp 28]) rfl ?_);at_builtin;refine Kd.R_append_rows (Kd.int .i64) (w0:=w) w.heap.size rfl (.tmp 25) (.tmp 28) 22 3 (.int .i64 0) 8 rfl Try.underlying22 info3 rfl (by decide) (by omega) (.slice none 0 0) ([]:List Int) al _ _ _ (fun k_=>(w.heap.size≤k_)) (fun _=>False) rfl rfl ?aO ?aR (fun _ _ h=>h) (fun _ h=>h.elim) ?aF ?aB ?aS ?aL ?_;(case aR=>repeat (first|exact (Kd.V_reads' ag.out).2.2|(with_reducible first|refine cL ?_ _|refine cN ?_ _|refine cW ?_)));(case aB=>exact HB.out);(case aF=>exact (fun k_ hk=>(Nat.le_trans (qZ HB.out) hk)));(case aO=>exact ((Kd.R_nil _ _ _ _ (fun k_=>(w.heap.size≤k_)))));(case aS=>exact (qZ HB.out));(case aL=>have:=bH.out;omega);intro cb cQ ho hb hg hat;rw [← bI.out] at ho;have au:=qK (Kd.V_afterv (Kd.V_apart_nil ab.out) hg hat);have av:=qK (Kd.V_afterv (Kd.V_apart_nil ag.out) hg hat);have aw:=qK (hb);have ax:=qK (ho);clear ab ag HB;have ab:=au;have ag:=av;have HB:=aw;have bk:=ax;clear au av aw ax;clear ho hb hg hat)|((with_reducible refine gate_builtin (b:=.append) (xs:=#[.tmp 30,.tmp 32]) rfl ?_);at_builtin;refine Kd.R_append (Kd.int .i64) (w0:=w) w.heap.size rfl (.tmp 30) (.tmp 32) 22 3 (.int .i64 0) 8 rfl Try.underlying22 info3 rfl (by decide) (by omega) cb az a1 [.int .i64 a1] (fun k_=>(w.heap.size≤k_)) (fun _=>False) rfl rfl ?aP (fun _ hk=>hk.elim) ?aF ?aO ?aB ?aS ?aL ?_;(case aP=>exact rfl);(case aB=>exact HB.out);(case aF=>exact (fun k_ hk=>(Nat.le_trans (qZ HB.out) hk)));(case aO=>exact bk.out);(case aS=>exact (qZ HB.out));(case aL=>have:=bJ.out;omega);intro cc cR ho hb hg hat;rw [← bK.out] at ho;have au:=qK (Kd.V_afterv (ok:=(fun k_=>(aI k_ ∨ w.heap.size≤k_))) ab.out hg hat);have av:=qK (Kd.V_afterv (ok:=(fun k_=>(aI k_ ∨ w.heap.size≤k_))) ag.out hg hat);have aw:=qK (hb);have ax:=qK (ho);clear ab ag HB bk;have ab:=au;have ag:=av;have HB:=aw;have bl:=ax;clear au av aw ax ho hb hg hat;have cd:(aa:Int)≤((l0.length:Int):Int):=of_decide_eq_true (by assumption);obtain ⟨i030,bm,_,bn,_⟩:=info_parts info3;have hroom30:l0.length≤c0:=(Kd.V_reads' ab.out).2.1;have bP:Kd.F (Kd.int .i64) _ _ A0 l0.length l0:=(Kd.V_at (base:=w.heap.size) ab.out).2.2;have ce:(0:Int)≤(aa:Int):=of_decide_eq_true (by assumption);have hcut30:=cut_from (P:=Try.prog) 22 3 .i64 Try.underlying22 bm 1 bn A0 l0.length c0 aa ce cd;have aQ:=Kd.F_cut (m:=(aa:Int).toNat) (c:=c0) bP (by omega) hroom30;obtain ⟨bu,aY⟩:∃ A1,A1=(if c0=(aa:Int).toNat then A0 else (A0:Option Addr).map (·.add ((aa:Int).toNat * 1))):=⟨_,rfl⟩;obtain ⟨cv,aZ⟩:∃ c1,c1=c0 - (aa:Int).toNat:=⟨_,rfl⟩;have aT:ad.length=l0.length - (aa:Int).toNat:=(by rw [bi.out,lD] <;> omega);rw [show (l0).drop (aa:Int).toNat=ad from bi.out.symm] at aQ;replace aQ:Kd.F (Kd.int .i64) _ _ bu ad.length ad:=(by rw [aY];exact aQ);rw [← aT,← aY,← aZ] at hcut30;have aK:=qK (show Kd.V (Kd.int .i64) 3 _ w.heap.size _ (.slice bu ad.length cv) ad from Kd.V_mk (by rw [aT,aZ];exact Nat.sub_le_sub_right hroom30 _) aQ);have cw:=qK (show ad.length≤cv from by rw [aT,aZ];exact Nat.sub_le_sub_right hroom30 _);clear aQ bP hroom30 bm bn aZ;have cI:=qK aT;have cJ:=qK aY;clear aT aY;replace cd:=eq_true cd)|((with_reducible refine gate_builtin (b:=.append) (xs:=#[.tmp 34,.tmp 37]) rfl ?_);at_builtin;refine Kd.R_append_rows (Kd.int .i64) (w0:=w) w.heap.size rfl (.tmp 34) (.tmp 37) 22 3 (.int .i64 0) 8 rfl Try.underlying22 info3 rfl (by decide) (by omega) cc ai ad _ _ _ (fun k_=>(w.heap.size≤k_)) (fun _=>False) rfl rfl ?aO ?aR (fun _ _ h=>h) (fun _ h=>h.elim) ?aF ?aB ?aS ?aL ?_;(case aR=>repeat (first|exact (Kd.V_reads' aK.out).2.2|(with_reducible first|refine cL ?_ _|refine cN ?_ _|refine cW ?_)));(case aB=>exact HB.out);(case aF=>exact (fun k_ hk=>(Nat.le_trans (qZ HB.out) hk)));(case aO=>exact bl.out);(case aS=>exact (qZ HB.out));(case aL=>have:=bL.out;omega);intro cK cS ho hb hg hat;rw [← bM.out] at ho;have au:=qK (Kd.V_afterv (ok:=(fun k_=>(aI k_ ∨ w.heap.size≤k_))) ab.out hg hat);have av:=qK (Kd.V_afterv (ok:=(fun k_=>(aI k_ ∨ w.heap.size≤k_))) ag.out hg hat);have aw:=qK (Kd.V_afterv (ok:=(fun k_=>(aI k_ ∨ w.heap.size≤k_))) aK.out hg hat);have ax:=qK (hb);have bF:=qK (ho);clear ab ag aK HB bl;have ab:=au;have ag:=av;have aK:=aw;have HB:=ax;have bQ:=bF;clear au av aw ax bF;clear ho hb hg hat))
          go_ret
          exact ⟨_,by rfl,Kd.V_mono (Kd.R_V bQ.out) (fun k_ hk=>by first|exact ⟨(.inr (hk.1)),hk.2⟩|exact (.inr (hk))),HB.out⟩
         ·rw [if_neg c26] at H;exact absurd H (by simp)
        ·rw [if_neg c23] at H;exact absurd H (by simp)
       ·rw [if_neg c22] at H;exact absurd H (by simp)
      ·rw [if_neg c21] at H;exact absurd H (by simp)
     ·rw [if_neg c20] at H;exact absurd H (by simp)

/-! ### spec_l12Cost: function 32 -/
def spec_l12Cost.l0 : Nat→Int→List Int→List Int→Int→Int→List Int→List (List Int)→Option (Int)
 | 0,_,_,_,_,_,_,_=>none
 | k + 1,x5,x6,x9,x10,x11,x160000,x160001=>if x11 < x10 then (if 0≤x11 then (if x11 < (x9.length:Int) then ((spec_l7Put.f k x6 (rd x9 x11)).bind fun t161=>(if x11 > 0 then ((spec_l12Size.f k x160000 x160001 t161).bind fun t164=>(spec_l12Cost.l0 k (wrap64 (x5 + t164)) t161 x9 x10 (wrap64 (x11 + 1)) x160000 x160001)) else (spec_l12Cost.l0 k x5 t161 x9 x10 (wrap64 (x11 + 1)) x160000 x160001))) else (none)) else (none)) else (some x5)
def spec_l12Cost.f (k:Nat) (l0_0:List Int) (l0_1:List (List Int)) (l1:List Int):Option (Int):=spec_l12Cost.l0 k 0 ([]:List Int) l1 (l1.length:Int) 0 l0_0 l0_1
theorem spec_l12Cost.mono_l : ∀ k,(∀ y0 y1 y2 y3 y4 y5 y6,LeO (spec_l12Cost.l0 k y0 y1 y2 y3 y4 y5 y6) (spec_l12Cost.l0 (k + 1) y0 y1 y2 y3 y4 y5 y6))
 | 0=>fun _ _ _ _ _ _ _ r h=>by simp [spec_l12Cost.l0] at h
 | k + 1=>by
  have aa:=spec_l12Cost.mono_l k
  ·intro y0 y1 y2 y3 y4 y5 y6;unfold spec_l12Cost.l0
   repeat' first
   | (with_reducible exact aa _ _ _ _ _ _ _)
   | (with_reducible exact spec_l12Size.mono _ _ _ _)
   | (with_reducible exact spec_l7Put.mono _ _ _)
   | (with_reducible exact LeO.refl _)
   | (with_reducible exact LeO.none _)
   | (with_reducible refine LeO.ite ?_ ?_)
   | (with_reducible refine LeO.bind ?_ (fun _=>?_))
   | exact aa _ _ _ _ _ _ _
   | exact spec_l12Size.mono _ _ _ _
   | exact spec_l7Put.mono _ _ _
   | exact LeO.none _
   | refine LeO.ite ?_ ?_
   | refine LeO.bind ?_ (fun _=>?_)
theorem spec_l12Cost.mono : ∀ a0 a1 a2 k,LeO (spec_l12Cost.f k a0 a1 a2) (spec_l12Cost.f (k + 1) a0 a1 a2):=by
 intro a0 a1 a2 k;have aa:=spec_l12Cost.mono_l k;unfold spec_l12Cost.f
 repeat' first
   | (with_reducible exact aa _ _ _ _ _ _ _)
   | (with_reducible exact spec_l12Size.mono _ _ _ _)
   | (with_reducible exact spec_l7Put.mono _ _ _)
   | (with_reducible exact LeO.refl _)
   | (with_reducible exact LeO.none _)
   | (with_reducible refine LeO.ite ?_ ?_)
   | (with_reducible refine LeO.bind ?_ (fun _=>?_))
   | exact aa _ _ _ _ _ _ _
   | exact spec_l12Size.mono _ _ _ _
   | exact spec_l7Put.mono _ _ _
   | exact LeO.none _
   | refine LeO.ite ?_ ?_
   | refine LeO.bind ?_ (fun _=>?_)
set_option maxHeartbeats 8000000 in
set_option maxRecDepth 100000 in
theorem spec_l12Cost.calls (k:Nat) (an:Option Addr) (ao:Nat) (ae:List Int) (ap:Option Addr) (aq:Nat) (af:List (List Int)) (A1:Option Addr) (c1:Nat) (l1:List Int) (r:Int) (w:World) (ay:Kd.C (Kd.int .i64) w an ae.length ae) (az:ae.length≤ao) (aA:Kd.C (Kd.slice 3 (Kd.int .i64)) w ap af.length af) (aC:af.length≤aq) (bh:Kd.C (Kd.int .i64) w A1 l1.length l1) (bi:l1.length≤c1) (h:spec_l12Cost.f k ae af l1=some r) :
  Calls Try.prog 32 #[.agg #[.slice an ae.length ao,.slice ap af.length aq],.slice A1 l1.length c1] w fun e w'=>e=.returned (.int .i64 r)∧Below w.heap.size w w':=by
 have bp:=Try.underlying29;have aE:=qK ay;have aG:=qK az;clear ay az;have aH:=qK aA;have aI:=qK aC;clear aA aC;have bj:=qK bh;have bt:=qK bi;clear bh bi;have HB:=qK (Below.refl w.heap.size w);have H:(spec_l12Cost.l0 k 0 ([]:List Int) l1 (l1.length:Int) 0 ae af)=some r:=h;clear h;have H':=qK H;clear H;go_enter Try.func32,Try.ntmps32
 go_wp2_with (first|((with_reducible refine gate_dst (N:=2) rfl ?_);refine box_event ?hg (N:=2) ?hd (cs:=#[.slice an ae.length ao,.slice ap af.length aq]) (t:=29) ?hr ?_;(case hd=>rfl);(case hg=>rfl);(case hr=>(go_simp;try rfl));intro ac hg w3 hbox hb;have au:=qK (qT HB.out hb);have av:=qK (hbox);have ar:=qK ((by rw [hg];exact (qZ HB.out):w.heap.size≤ac));have aw:=ar;clear HB;have HB:=au;have ab:=av;have bk:=ar;have bl:=aw;clear au av ar aw;clear hb hbox hg))
 go_loopg [5,6,11] k (fun kq v5 v6 bq w'=>∃ (aj:Int) (ak:List Int) (aa:Int),v5=.int .i64 aj∧bq=.int .i64 aa∧Aside0 (spec_l12Cost.l0 kq aj ak l1 (l1.length:Int) aa ae af=some r)∧Aside0 (kq≤k)∧Aside0 (Kd.V (Kd.int .i64) 3 w' w.heap.size (fun k_=>k_ ≠ ac) v6 ak)∧Aside0 (w'.heap[ac]?=some (.cells #[(.slice an ae.length ao),(.slice ap af.length aq)] 29 (0,0)))∧Aside0 (Below w.heap.size w w'))
 case atStart=>exact ⟨(0),(([]:List Int)),(0),(by rfl),(by rfl),H',⟨Nat.le_refl _⟩,⟨Kd.R_V (base:=0) (by first|exact Kd.R_nil _ _ _ _ _|exact Kd.N_nil _ _ _ _ _|exact Kd.V_nil _ _ _ _ _|exact Kd.Q_nil _ _ _ _ _|exact Kd.S_nil _ _ _ _ _)⟩,⟨ab.out⟩,⟨HB.out⟩⟩
 case round =>
  clear H';try clear c1
  try clear p2
  try clear c3
  obtain ⟨aj,ak,aa,rfl,rfl,HA,aM,ah,ab,HB⟩:=hrel;cases gk with
  | zero=>exact absurd HA.out (by simp [spec_l12Cost.l0])
  | succ k1 =>
   have H:=HA.out;clear HA;simp only [spec_l12Cost.l0] at H;by_cases c4:aa < (l1.length:Int)
   ·rw [if_pos c4] at H;have aV:decide (aa < (l1.length:Int))=true:=decide_eq_true c4;clear c4;by_cases c5:0≤aa
    ·rw [if_pos c5] at H;have br:decide (0≤aa)=true:=decide_eq_true c5;clear c5;by_cases c6:aa < (l1.length:Int)
     ·rw [if_pos c6] at H;have bs:decide (aa < (l1.length:Int))=true:=decide_eq_true c6;clear c6;replace H:=Option.bind_eq_some_iff.mp H;obtain ⟨ai,bm,H⟩:=H;replace H:(if aa > 0 then ((spec_l12Size.f k1 ae af ai).bind fun ax=>(spec_l12Cost.l0 k1 (wrap64 (aj + ax)) ai l1 (l1.length:Int) (wrap64 (aa + 1)) ae af)) else (spec_l12Cost.l0 k1 aj ai l1 (l1.length:Int) (wrap64 (aa + 1)) ae af))=some r:=H;have A7:=qK bm;clear bm;by_cases c8:aa > 0
      ·rw [if_pos c8] at H;have aW:decide (0 < aa)=true:=decide_eq_true c8;clear c8;replace H:=Option.bind_eq_some_iff.mp H;obtain ⟨ax,bn,H⟩:=H;replace H:(spec_l12Cost.l0 k1 (wrap64 (aj + ax)) ai l1 (l1.length:Int) (wrap64 (aa + 1)) ae af)=some r:=H;have A9:=qK bn;clear bn;have H':=qK H;clear H;have al:0≤(aa:Int):=of_decide_eq_true (by assumption);have am:aa < (l1.length:Int):=of_decide_eq_true (by assumption);obtain ⟨aJ,aD,ad⟩:=Kd.at_int bj.out aa al am;cases aD
       replace ad:=(HB.out.cell (World.block_lt_of_cell? w _ ad)).trans ad;replace al:=eq_true al;replace am:=eq_true am;obtain ⟨aX,aY,aZ⟩:=Kd.V_slice ah.out;subst aZ;go_wp2_with (first|((with_reducible refine gate_callee (f:=55) rfl ?_);refine goesL_ (some 18) rfl rfl Try.func55 (by kernel_rfl) rfl #[.slice aX ak.length aY,.int .i64 (rd l1 aa)] rfl (by (try simp only [mT,mC,mN]);first|done|rfl|(simp only [lD,lT];rfl)) ?_;(with_reducible refine (spec_l7Put.calls k1 (fun k_=>k_ ≠ ac) _ _ ak (rd l1 aa) ai _ ?side1 A7.out).mono ?_);(case side1=>exact ah.out);rintro e bo ⟨ba,rfl,aK,hb⟩;refine ⟨_,rfl,?_⟩;have au:=qK (Kd.V_below ah.out hb);have av:=qK (Kd.V_lower (Kd.V_mono (ok':=fun k_=>k_ ≠ ac) aK (fun k_ hk_=>Or.elim hk_ (fun hs_=>hs_) (fun hn_=>(Kd.freshB (g:=ac) (o:=_) (by exact ab.out) k_ hn_)))) (qZ HB.out));have ar:=qK (qB (g:=ac) (o:=_) (by exact ab.out) hb);have aw:=qK (qT HB.out hb);clear ah ab HB;have ah:=au;have ag:=av;have ab:=ar;have HB:=aw;clear au av ar aw;(try clear hb);(try clear aK);have aN:bo.cell? ⟨ac,0,none⟩=some (.slice an ae.length ao):=(qC ab.out 0).trans rfl;have aQ:bo.cell? ⟨ac,1,none⟩=some (.slice ap af.length aq):=(qC ab.out 1).trans rfl;have aT:=qF ab.out 0;have aU:=qF ab.out 1;obtain ⟨bb,bc,bd⟩:=Kd.V_slice ag.out;subst bd)|((with_reducible refine gate_callee (f:=52) rfl ?_);refine goesL_ (some 24) rfl rfl Try.func52 (by kernel_rfl) rfl #[.agg #[.slice an ae.length ao,.slice ap af.length aq],.slice bb ai.length bc] rfl (by (try simp only [mT,mC,mN]);first|done|rfl|(simp only [lD,lT];rfl)) ?_;(with_reducible refine (spec_l12Size.calls k1 _ _ ae _ _ af _ _ ai ax _ ?side1 ?side2 ?side3 ?side4 ?side5 ?side6 A9.out).mono ?_);(case side1=>exact (cB aE.out HB.out));(case side2=>exact aG.out);(case side3=>exact (cB aH.out HB.out));(case side4=>exact aI.out);(case side5=>exact (Kd.V_reads' ag.out).2.2);(case side6=>exact (Kd.V_reads' ag.out).2.1);rintro e bu ⟨rfl,hb⟩;refine ⟨_,rfl,?_⟩;have au:=qK (Kd.V_below ah.out hb);have av:=qK (Kd.V_below ag.out hb);have ar:=qK (qB (g:=ac) (o:=_) (by exact ab.out) hb);have aw:=qK (qT HB.out hb);clear ah ag ab HB;have ah:=au;have ag:=av;have ab:=ar;have HB:=aw;clear au av ar aw;(try clear hb)))
       go_roundg k1
       case measure=>have:=aM.out;omega
       case rel=>exact ⟨(wrap64 (aj + ax)),(ai),(wrap64 (aa + 1)),(by rfl),(by rfl),H',⟨by have:=aM.out;omega⟩,⟨ag.out⟩,⟨ab.out⟩,⟨HB.out⟩⟩
      ·rw [if_neg c8] at H;have aW:decide (0 < aa)=false:=decide_eq_false c8;clear c8;have H':=qK H;clear H;have al:0≤(aa:Int):=of_decide_eq_true (by assumption);have am:aa < (l1.length:Int):=of_decide_eq_true (by assumption);obtain ⟨aJ,aD,ad⟩:=Kd.at_int bj.out aa al am;cases aD
       replace ad:=(HB.out.cell (World.block_lt_of_cell? w _ ad)).trans ad;replace al:=eq_true al;replace am:=eq_true am;obtain ⟨be,bf,bg⟩:=Kd.V_slice ah.out;subst bg;go_wp2_with (first|((with_reducible refine gate_callee (f:=55) rfl ?_);refine goesL_ (some 18) rfl rfl Try.func55 (by kernel_rfl) rfl #[.slice be ak.length bf,.int .i64 (rd l1 aa)] rfl (by (try simp only [mT,mC,mN]);first|done|rfl|(simp only [lD,lT];rfl)) ?_;(with_reducible refine (spec_l7Put.calls k1 (fun k_=>k_ ≠ ac) _ _ ak (rd l1 aa) ai _ ?side1 A7.out).mono ?_);(case side1=>exact ah.out);rintro e bv ⟨ba,rfl,aK,hb⟩;refine ⟨_,rfl,?_⟩;have au:=qK (Kd.V_below ah.out hb);have av:=qK (Kd.V_lower (Kd.V_mono (ok':=fun k_=>k_ ≠ ac) aK (fun k_ hk_=>Or.elim hk_ (fun hs_=>hs_) (fun hn_=>(Kd.freshB (g:=ac) (o:=_) (by exact ab.out) k_ hn_)))) (qZ HB.out));have ar:=qK (qB (g:=ac) (o:=_) (by exact ab.out) hb);have aw:=qK (qT HB.out hb);clear ah ab HB;have ah:=au;have ag:=av;have ab:=ar;have HB:=aw;clear au av ar aw;(try clear hb);(try clear aK)))
       go_roundg k1
       case measure=>have:=aM.out;omega
       case rel=>exact ⟨(aj),(ai),(wrap64 (aa + 1)),(by rfl),(by rfl),H',⟨by have:=aM.out;omega⟩,⟨ag.out⟩,⟨ab.out⟩,⟨HB.out⟩⟩
     ·rw [if_neg c6] at H;exact absurd H (by simp)
    ·rw [if_neg c5] at H;exact absurd H (by simp)
   ·rw [if_neg c4] at H;have aV:decide (aa < (l1.length:Int))=false:=decide_eq_false c4;clear c4;obtain rfl:=Option.some.inj H;go_wp2
    go_ret
    exact ⟨by rfl,HB.out⟩

/-! ### spec_l11Without: function 53 -/
def spec_l11Without.l0 : Nat→Int→List Int→List Int→Int→Int→Option (List Int)
 | 0,_,_,_,_,_=>none
 | k + 1,x1,x5,x8,x9,x10=>if x10 < x9 then (if 0≤x10 then (if x10 < (x8.length:Int) then (if (rd x8 x10)=x1 then (spec_l11Without.l0 k x1 x5 x8 x9 (wrap64 (x10 + 1))) else (if x5.length < 17592186044416 then (spec_l11Without.l0 k x1 (x5 ++ [rd x8 x10]) x8 x9 (wrap64 (x10 + 1))) else (none))) else (none)) else (none)) else (some x5)
def spec_l11Without.f (k:Nat) (l0:List Int) (a1:Int):Option (List Int):=spec_l11Without.l0 k a1 ([]:List Int) l0 (l0.length:Int) 0
theorem spec_l11Without.mono_l : ∀ k,(∀ y0 y1 y2 y3 y4,LeO (spec_l11Without.l0 k y0 y1 y2 y3 y4) (spec_l11Without.l0 (k + 1) y0 y1 y2 y3 y4))
 | 0=>fun _ _ _ _ _ r h=>by simp [spec_l11Without.l0] at h
 | k + 1=>by
  have aa:=spec_l11Without.mono_l k
  ·intro y0 y1 y2 y3 y4;unfold spec_l11Without.l0
   repeat' first
   | (with_reducible exact aa _ _ _ _ _)
   | (with_reducible exact LeO.refl _)
   | (with_reducible exact LeO.none _)
   | (with_reducible refine LeO.ite ?_ ?_)
   | (with_reducible refine LeO.bind ?_ (fun _=>?_))
   | exact aa _ _ _ _ _
   | exact LeO.none _
   | refine LeO.ite ?_ ?_
   | refine LeO.bind ?_ (fun _=>?_)
theorem spec_l11Without.mono : ∀ a0 a1 k,LeO (spec_l11Without.f k a0 a1) (spec_l11Without.f (k + 1) a0 a1):=by
 intro a0 a1 k;have aa:=spec_l11Without.mono_l k;unfold spec_l11Without.f
 repeat' first
   | (with_reducible exact aa _ _ _ _ _)
   | (with_reducible exact LeO.refl _)
   | (with_reducible exact LeO.none _)
   | (with_reducible refine LeO.ite ?_ ?_)
   | (with_reducible refine LeO.bind ?_ (fun _=>?_))
   | exact aa _ _ _ _ _
   | exact LeO.none _
   | refine LeO.ite ?_ ?_
   | refine LeO.bind ?_ (fun _=>?_)
set_option maxHeartbeats 8000000 in
set_option maxRecDepth 100000 in
theorem spec_l11Without.calls (k:Nat) (A0:Option Addr) (c0:Nat) (l0:List Int) (a1:Int) (r:List Int) (w:World) (au:Kd.C (Kd.int .i64) w A0 l0.length l0) (av:l0.length≤c0) (h:spec_l11Without.f k l0 a1=some r) :
  Calls Try.prog 53 #[.slice A0 l0.length c0,.int .i64 a1] w fun e w'=>∃ aw:Value,e=.returned (aw)∧Kd.R (Kd.int .i64) 3 w' w.heap.size (fun _=>True) aw r∧Below w.heap.size w w':=by
 have ax:=qK au;have aG:=qK av;clear au av;have HB:=qK (Below.refl w.heap.size w);have H:(spec_l11Without.l0 k a1 ([]:List Int) l0 (l0.length:Int) 0)=some r:=h;clear h;have H':=qK H;clear H;go_enter Try.func53,Try.ntmps53
 go_wp2
 go_loopg [5,10] k (fun kq v5 aA w'=>∃ (ad:List Int) (aa:Int),aA=.int .i64 aa∧Aside0 (spec_l11Without.l0 kq a1 ad l0 (l0.length:Int) aa=some r)∧Aside0 (kq≤k)∧Aside0 (Kd.R (Kd.int .i64) 3 w' w.heap.size (fun _=>True) v5 ad)∧Aside0 (Below w.heap.size w w'))
 case atStart=>exact ⟨(([]:List Int)),(0),(by rfl),H',⟨Nat.le_refl _⟩,⟨by first|exact Kd.R_nil _ _ _ _ _|exact Kd.N_nil _ _ _ _ _|exact Kd.V_nil _ _ _ _ _|exact Kd.Q_nil _ _ _ _ _|exact Kd.S_nil _ _ _ _ _⟩,⟨HB.out⟩⟩
 case round =>
  clear H';try clear p2
  obtain ⟨ad,aa,rfl,HA,am,ag,HB⟩:=hrel;cases gk with
  | zero=>exact absurd HA.out (by simp [spec_l11Without.l0])
  | succ k1 =>
   have H:=HA.out;clear HA;simp only [spec_l11Without.l0] at H;by_cases c3:aa < (l0.length:Int)
   ·rw [if_pos c3] at H;have an:decide (aa < (l0.length:Int))=true:=decide_eq_true c3;clear c3;by_cases c4:0≤aa
    ·rw [if_pos c4] at H;have aC:decide (0≤aa)=true:=decide_eq_true c4;clear c4;by_cases c5:aa < (l0.length:Int)
     ·rw [if_pos c5] at H;have aD:decide (aa < (l0.length:Int))=true:=decide_eq_true c5;clear c5;by_cases c6:(rd l0 aa)=a1
      ·rw [if_pos c6] at H;have ao:((rd l0 aa) == a1)=true:=beq_iff_eq.mpr c6;have ap:((rd l0 aa) != a1)=false:=bne_eq_false_iff_eq.mpr c6;clear c6;have H':=qK H;clear H;have ae:0≤(aa:Int):=of_decide_eq_true (by assumption);have af:aa < (l0.length:Int):=of_decide_eq_true (by assumption);obtain ⟨ai,ah,ab⟩:=Kd.at_int ax.out aa ae af;cases ah
       replace ab:=(HB.out.cell (World.block_lt_of_cell? w _ ab)).trans ab;replace ae:=eq_true ae;replace af:=eq_true af;go_wp2
       go_roundg k1
       case measure=>have:=am.out;omega
       case rel=>exact ⟨(ad),(wrap64 (aa + 1)),(by rfl),H',⟨by have:=am.out;omega⟩,⟨ag.out⟩,⟨HB.out⟩⟩
      ·rw [if_neg c6] at H;have ao:((rd l0 aa) == a1)=false:=beq_eq_false_iff_ne.mpr c6;have ap:((rd l0 aa) != a1)=true:=bne_iff_ne.mpr c6;by_cases c7:ad.length < 17592186044416
       ·rw [if_pos c7] at H;have aq:=qK c7;clear c7;obtain ⟨aj,ac⟩:∃ y_:List Int,y_=(ad ++ [rd l0 aa]):=⟨_,rfl⟩;replace H:(spec_l11Without.l0 k1 a1 aj l0 (l0.length:Int) (wrap64 (aa + 1)))=some r:=by first|(rw [ac];with_reducible exact H)|(have ar:=(Option.bind_some _ _).symm.trans H;rw [ac];with_reducible exact ar)|(have ar:=(Option.bind_some _ _).symm.trans H;with_reducible exact ar)|with_reducible exact H|(rw [ac];exact H)|exact H
        have ak:=qK ac;clear ac;have H':=qK H;clear H;have ae:0≤(aa:Int):=of_decide_eq_true (by assumption);have af:aa < (l0.length:Int):=of_decide_eq_true (by assumption);obtain ⟨ai,ah,ab⟩:=Kd.at_int ax.out aa ae af;cases ah
        replace ab:=(HB.out.cell (World.block_lt_of_cell? w _ ab)).trans ab;replace ae:=eq_true ae;replace af:=eq_true af;go_wp2_with (first|((with_reducible refine gate_builtin (b:=.append) (xs:=#[.tmp 17,.tmp 19]) rfl ?_);at_builtin;refine Kd.R_append (Kd.int .i64) (w0:=w) w.heap.size rfl (.tmp 17) (.tmp 19) 22 3 (.int .i64 0) 8 rfl Try.underlying22 info3 rfl (by decide) (by omega) u5 ad (rd l0 aa) [.int .i64 (rd l0 aa)] (fun _=>True) (fun _=>False) rfl rfl ?aP (fun _ hk=>hk.elim) ?aF ?aO ?aB ?aS ?aL ?_;(case aP=>exact rfl);(case aB=>exact HB.out);(case aF=>exact (fun _ _=>trivial));(case aO=>exact ag.out);(case aS=>exact (qZ HB.out));(case aL=>have:=aq.out;omega);intro aE w8 ho hb hg hat;rw [← ak.out] at ho;have ay:=qK (hb);have az:=qK (ho);clear HB ag;have HB:=ay;have al:=az;clear ay az;clear ho hb hg hat))
        go_roundg k1
        case measure=>have:=am.out;omega
        case rel=>exact ⟨(aj),(wrap64 (aa + 1)),(by rfl),H',⟨by have:=am.out;omega⟩,⟨al.out⟩,⟨HB.out⟩⟩
       ·rw [if_neg c7] at H;exact absurd H (by simp)
     ·rw [if_neg c5] at H;exact absurd H (by simp)
    ·rw [if_neg c4] at H;exact absurd H (by simp)
   ·rw [if_neg c3] at H;have an:decide (aa < (l0.length:Int))=false:=decide_eq_false c3;clear c3;obtain rfl:=Option.some.inj H;go_wp2
    go_ret
    exact ⟨_,by rfl,ag.out,HB.out⟩

end Go.Proofs.Ytecebaeifmddnaa.PFnOrdered
