/-
  A text of this claim's own, printed by a program of the session (wip/tools/xprint.py): functions of the program as Lean functions, each with what its call comes to.
-/
import Derived.Test.YtboligpcbndkjaaPFnExactCoreOfx0
import Derived.Test.YtboligpcbndkjaaPFnExactCoreOfx5
import Derived.Test.YtboligpcbndkjaaPFnExactCoreOfx6
namespace Go.Proofs.Ytboligpcbndkjaa.PFnExactCoreOf
open Go.Proofs.YtboligpcbndkjaaW.PrintWords renaming pw_below_drewN → qD, blk_cell → qC, below_drew1 → qO, below_alloc → qA, blk_frozen → qF, below_set → qS, blk_drewN → qN, blk_alloc → qL, blk_drew → qW, below_size → qZ, below_step → qT, blk_below → qB, blk_far → qR, blk_put → qP
open Go.Proofs.YtboligpcbndkjaaW.PrintWords.Aside0 renaming mk → qK
open Bool renaming true → Y, false → Z
open List renaming setIfInBounds_toArray → sIb, set_cons_zero → sZ, set_cons_succ → sS, map_toArray → mT, map_cons → mC, map_nil → mN, length_drop → lD, length_take → lT
open Go.Proofs.YtboligpcbndkjaaW.PrintWords.Kd renaming C_alloc → cL, C_drewN → cN, C_drew → cW, C_below → cB, R_alloc → rL, R_drewN → rN, R_drew → rW, R_below → rB
open Go.RowKit Go.Proofs.YtboligpcbndkjaaW.PrintWords Go.Proofs.YtboligpcbndkjaaW.PrintLast Go.Proofs.YtboligpcbndkjaaW.PrintMore
attribute [local go_sem] max2_int min2_int max_two min_two max_three min_three max_four min_four   -- for this text's walks alone
set_option linter.unusedVariables false
set_option linter.unusedSimpArgs false

/-! ### spec_l10May: function 184 -/
mutual
def spec_l10May.l0 : Nat→List Int→List Int→Int→Int→List Int→List (S97)→List Int→List (S97)→Option (Bool)
 | 0,_,_,_,_,_,_,_,_=>none
 | k + 1,x2,x12,x13,x14,x309000,x309001,x310000,x310001=>if x14 < x13 then (if 0≤x14 then (if x14 < (x12.length:Int) then (if (rd x12 x14) < (x2.length:Int) then (if 0≤(rd x12 x14) then (if x14 < (x309000.length:Int) then (if (rd x2 (rd x12 x14))=(rd x309000 x14) then (spec_l10May.l0 k x2 x12 x13 (wrap64 (x14 + 1)) x309000 x309001 x310000 x310001) else (some false)) else (none)) else (none)) else (spec_l10May.l0 k x2 x12 x13 (wrap64 (x14 + 1)) x309000 x309001 x310000 x310001)) else (none)) else (none)) else (spec_l10May.l1 k x2 x310001 (x310001.length:Int) 0 x309000 x309001)
def spec_l10May.l1 : Nat→List Int→List (S97)→Int→Int→List Int→List (S97)→Option (Bool)
 | 0,_,_,_,_,_,_=>none
 | k + 1,x2,x37,x38,x39,x309000,x309001=>if x39 < x38 then (if 0≤x39 then (if x39 < (x37.length:Int) then ((spec_l10HasAtom.f k x309000 x309001 ((rd_T97 x37 x39).f0) ((rd_T97 x37 x39).f1) x2).bind fun t315=>(if t315=true then (spec_l10May.l1 k x2 x37 x38 (wrap64 (x39 + 1)) x309000 x309001) else (some false))) else (none)) else (none)) else (some true)
end
def spec_l10May.f (k:Nat) (l0_0:List Int) (l0_1:List (S97)) (l1_0:List Int) (l1_1:List (S97)) (l2:List Int):Option (Bool):=spec_l10May.l0 k l2 l1_0 (l1_0.length:Int) 0 l0_0 l0_1 l1_0 l1_1
theorem spec_l10May.mono_l : ∀ k,(∀ y0 y1 y2 y3 y4 y5 y6 y7,LeO (spec_l10May.l0 k y0 y1 y2 y3 y4 y5 y6 y7) (spec_l10May.l0 (k + 1) y0 y1 y2 y3 y4 y5 y6 y7))∧(∀ y0 y1 y2 y3 y4 y5,LeO (spec_l10May.l1 k y0 y1 y2 y3 y4 y5) (spec_l10May.l1 (k + 1) y0 y1 y2 y3 y4 y5))
 | 0=>⟨fun _ _ _ _ _ _ _ _ r h=>by simp [spec_l10May.l0] at h,fun _ _ _ _ _ _ r h=>by simp [spec_l10May.l1] at h⟩
 | k + 1=>by
  obtain ⟨aa,ab⟩:=spec_l10May.mono_l k;refine ⟨?_,?_⟩
  ·intro y0 y1 y2 y3 y4 y5 y6 y7;unfold spec_l10May.l0
   repeat' first
   | (with_reducible exact aa _ _ _ _ _ _ _ _)
   | (with_reducible exact ab _ _ _ _ _ _)
   | (with_reducible exact spec_l10HasAtom.mono _ _ _ _ _ _)
   | (with_reducible exact LeO.refl _)
   | (with_reducible exact LeO.none _)
   | (with_reducible refine LeO.ite ?_ ?_)
   | (with_reducible refine LeO.bind ?_ (fun _=>?_))
   | exact aa _ _ _ _ _ _ _ _
   | exact ab _ _ _ _ _ _
   | exact spec_l10HasAtom.mono _ _ _ _ _ _
   | exact LeO.none _
   | refine LeO.ite ?_ ?_
   | refine LeO.bind ?_ (fun _=>?_)
  ·intro y0 y1 y2 y3 y4 y5;unfold spec_l10May.l1
   repeat' first
   | (with_reducible exact aa _ _ _ _ _ _ _ _)
   | (with_reducible exact ab _ _ _ _ _ _)
   | (with_reducible exact spec_l10HasAtom.mono _ _ _ _ _ _)
   | (with_reducible exact LeO.refl _)
   | (with_reducible exact LeO.none _)
   | (with_reducible refine LeO.ite ?_ ?_)
   | (with_reducible refine LeO.bind ?_ (fun _=>?_))
   | exact aa _ _ _ _ _ _ _ _
   | exact ab _ _ _ _ _ _
   | exact spec_l10HasAtom.mono _ _ _ _ _ _
   | exact LeO.none _
   | refine LeO.ite ?_ ?_
   | refine LeO.bind ?_ (fun _=>?_)
theorem spec_l10May.mono : ∀ a0 a1 a2 a3 a4 k,LeO (spec_l10May.f k a0 a1 a2 a3 a4) (spec_l10May.f (k + 1) a0 a1 a2 a3 a4):=by
 intro a0 a1 a2 a3 a4 k;obtain ⟨aa,ab⟩:=spec_l10May.mono_l k;unfold spec_l10May.f
 repeat' first
   | (with_reducible exact aa _ _ _ _ _ _ _ _)
   | (with_reducible exact ab _ _ _ _ _ _)
   | (with_reducible exact spec_l10HasAtom.mono _ _ _ _ _ _)
   | (with_reducible exact LeO.refl _)
   | (with_reducible exact LeO.none _)
   | (with_reducible refine LeO.ite ?_ ?_)
   | (with_reducible refine LeO.bind ?_ (fun _=>?_))
   | exact aa _ _ _ _ _ _ _ _
   | exact ab _ _ _ _ _ _
   | exact spec_l10HasAtom.mono _ _ _ _ _ _
   | exact LeO.none _
   | refine LeO.ite ?_ ?_
   | refine LeO.bind ?_ (fun _=>?_)
set_option maxHeartbeats 8000000 in
set_option maxRecDepth 100000 in
theorem spec_l10May.calls (k:Nat) (aG:Option Addr) (aH:Nat) (ao:List Int) (aI:Option Addr) (aJ:Nat) (ar:List (S97)) (aQ:Option Addr) (aT:Nat) (an:List Int) (bf:Option Addr) (aU:Nat) (ai:List (S97)) (A2:Option Addr) (c2:Nat) (l2:List Int) (r:Bool) (w:World) (hr0_0:Kd.C (Kd.int .i64) w aG ao.length ao) (hc0_0:ao.length≤aH) (hr0_1:Kd.C k97 w aI ar.length ar) (hc0_1:ar.length≤aJ) (hr1_0:Kd.C (Kd.int .i64) w aQ an.length an) (hc1_0:an.length≤aT) (hr1_1:Kd.C k97 w bf ai.length ai) (hc1_1:ai.length≤aU) (cV:Kd.C (Kd.int .i64) w A2 l2.length l2) (cX:l2.length≤c2) (h:spec_l10May.f k ao ar an ai l2=some r) :
  Calls Try.prog 184 #[.agg #[.slice aG ao.length aH,.slice aI ar.length aJ],.agg #[.slice aQ an.length aT,.slice bf ai.length aU],.slice A2 l2.length c2] w fun e w'=>e=.returned (.bool r)∧Below w.heap.size w w':=by
 have dl:=Try.underlying32;have dm:=Try.underlying97;have bc:=qK hr0_0;have bi:=qK hc0_0;clear hr0_0 hc0_0;have bj:=qK hr0_1;have bk:=qK hc0_1;clear hr0_1 hc0_1;have bR:=qK hr1_0;have cY:=qK hc1_0;clear hr1_0 hc1_0;have cf:=qK hr1_1;have cZ:=qK hc1_1;clear hr1_1 hc1_1;have cg:=qK cV;have cE:=qK cX;clear cV cX;have HB:=qK (Below.refl w.heap.size w);have H:(spec_l10May.l0 k l2 an (an.length:Int) 0 ao ar an ai)=some r:=h;clear h;have H':=qK H;clear H;go_enter Try.func184,Try.ntmps184
 go_wp2_with (first|((with_reducible refine gate_dst (N:=3) rfl ?_);refine box_event ?hg (N:=3) ?hd (cs:=#[.slice aG ao.length aH,.slice aI ar.length aJ]) (t:=32) ?hr ?_;(case hd=>rfl);(case hg=>rfl);(case hr=>(go_simp;try rfl));intro ac hg w4 hbox hb;have ax:=qK (qT HB.out hb);have ay:=qK (hbox);have av:=qK ((by rw [hg];exact (qZ HB.out):w.heap.size≤ac));have aw:=av;clear HB;have HB:=ax;have aa:=ay;have ch:=av;have az:=aw;clear ax ay av aw;clear hb hbox hg)|((with_reducible refine gate_dst (N:=4) rfl ?_);refine box_event ?hg (N:=4) ?hd (cs:=#[.slice aQ an.length aT,.slice bf ai.length aU]) (t:=32) ?hr ?_;(case hd=>rfl);(case hg=>rfl);(case hr=>(go_simp;try rfl));intro aj hg w5 hbox hb;have ax:=qK (qB (g:=ac) (o:=_) aa.out hb);have ay:=qK (qT HB.out hb);have av:=qK (hbox);have aw:=qK ((by rw [hg];exact (qZ HB.out):w.heap.size≤aj));have aV:=aw;have aZ:=qK ((by rw [hg];exact Nat.ne_of_lt (blk_lt (g:=ac) (o:=_) aa.out):ac ≠ aj));have aW:=qK aZ.out.symm;clear aa HB;have aa:=ax;have HB:=ay;have ab:=av;have ci:=aw;have aA:=aV;have al:=aZ;have am:=aW;clear ax ay av aw aV aZ aW hb hbox hg;have cH:=am.out;have cI:=al.out;have bl:w5.cell? ⟨aj,0,none⟩=some (.slice aQ an.length aT):=(qC ab.out 0).trans rfl;have bm:w5.cell? ⟨aj,1,none⟩=some (.slice bf ai.length aU):=(qC ab.out 1).trans rfl;have bn:=qF ab.out 0;have bo:=qF ab.out 1))
 repeat (go_quiet (first|((with_reducible refine gate_dst (N:=3) rfl ?_);refine box_event ?hg (N:=3) ?hd (cs:=#[.slice aG ao.length aH,.slice aI ar.length aJ]) (t:=32) ?hr ?_;(case hd=>rfl);(case hg=>rfl);(case hr=>(go_simp;try rfl));intro ac hg w4 hbox hb;have ax:=qK (qT HB.out hb);have ay:=qK (hbox);have av:=qK ((by rw [hg];exact (qZ HB.out):w.heap.size≤ac));have aw:=av;clear HB;have HB:=ax;have aa:=ay;have ch:=av;have az:=aw;clear ax ay av aw;clear hb hbox hg)|((with_reducible refine gate_dst (N:=4) rfl ?_);refine box_event ?hg (N:=4) ?hd (cs:=#[.slice aQ an.length aT,.slice bf ai.length aU]) (t:=32) ?hr ?_;(case hd=>rfl);(case hg=>rfl);(case hr=>(go_simp;try rfl));intro aj hg w5 hbox hb;have ax:=qK (qB (g:=ac) (o:=_) aa.out hb);have ay:=qK (qT HB.out hb);have av:=qK (hbox);have aw:=qK ((by rw [hg];exact (qZ HB.out):w.heap.size≤aj));have aV:=aw;have aZ:=qK ((by rw [hg];exact Nat.ne_of_lt (blk_lt (g:=ac) (o:=_) aa.out):ac ≠ aj));have aW:=qK aZ.out.symm;clear aa HB;have aa:=ax;have HB:=ay;have ab:=av;have ci:=aw;have aA:=aV;have al:=aZ;have am:=aW;clear ax ay av aw aV aZ aW hb hbox hg;have cH:=am.out;have cI:=al.out;have bl:w5.cell? ⟨aj,0,none⟩=some (.slice aQ an.length aT):=(qC ab.out 0).trans rfl;have bm:w5.cell? ⟨aj,1,none⟩=some (.slice bf ai.length aU):=(qC ab.out 1).trans rfl;have bn:=qF ab.out 0;have bo:=qF ab.out 1));try go_wp2_with (first|((with_reducible refine gate_dst (N:=3) rfl ?_);refine box_event ?hg (N:=3) ?hd (cs:=#[.slice aG ao.length aH,.slice aI ar.length aJ]) (t:=32) ?hr ?_;(case hd=>rfl);(case hg=>rfl);(case hr=>(go_simp;try rfl));intro ac hg w4 hbox hb;have ax:=qK (qT HB.out hb);have ay:=qK (hbox);have av:=qK ((by rw [hg];exact (qZ HB.out):w.heap.size≤ac));have aw:=av;clear HB;have HB:=ax;have aa:=ay;have ch:=av;have az:=aw;clear ax ay av aw;clear hb hbox hg)|((with_reducible refine gate_dst (N:=4) rfl ?_);refine box_event ?hg (N:=4) ?hd (cs:=#[.slice aQ an.length aT,.slice bf ai.length aU]) (t:=32) ?hr ?_;(case hd=>rfl);(case hg=>rfl);(case hr=>(go_simp;try rfl));intro aj hg w5 hbox hb;have ax:=qK (qB (g:=ac) (o:=_) aa.out hb);have ay:=qK (qT HB.out hb);have av:=qK (hbox);have aw:=qK ((by rw [hg];exact (qZ HB.out):w.heap.size≤aj));have aV:=aw;have aZ:=qK ((by rw [hg];exact Nat.ne_of_lt (blk_lt (g:=ac) (o:=_) aa.out):ac ≠ aj));have aW:=qK aZ.out.symm;clear aa HB;have aa:=ax;have HB:=ay;have ab:=av;have ci:=aw;have aA:=aV;have al:=aZ;have am:=aW;clear ax ay av aw aV aZ aW hb hbox hg;have cH:=am.out;have cI:=al.out;have bl:w5.cell? ⟨aj,0,none⟩=some (.slice aQ an.length aT):=(qC ab.out 0).trans rfl;have bm:w5.cell? ⟨aj,1,none⟩=some (.slice bf ai.length aU):=(qC ab.out 1).trans rfl;have bn:=qF ab.out 0;have bo:=qF ab.out 1)))
 go_loopg [14] k (fun kq dn w'=>∃ (af:Int),dn=.int .i64 af∧Aside0 (spec_l10May.l0 kq l2 an (an.length:Int) af ao ar an ai=some r)∧Aside0 (kq≤k)∧Aside0 (w'.heap[ac]?=some (.cells #[(.slice aG ao.length aH),(.slice aI ar.length aJ)] 32 (0,0)))∧Aside0 (w'.heap[aj]?=some (.cells #[(.slice aQ an.length aT),(.slice bf ai.length aU)] 32 (0,0)))∧Aside0 (Below w.heap.size w w'))
 case atStart=>exact ⟨(0),(by rfl),H',⟨Nat.le_refl _⟩,⟨aa.out⟩,⟨ab.out⟩,⟨HB.out⟩⟩
 case round =>
  clear H';try clear c1
  try clear c2
  try clear p2
  try clear c6
  try clear bl
  try clear bm
  try clear bn
  try clear bo
  obtain ⟨af,rfl,HA,cF,aa,ab,HB⟩:=hrel;cases gk with
  | zero=>exact absurd HA.out (by simp [spec_l10May.l0])
  | succ k1 =>
   have H:=HA.out;clear HA;simp only [spec_l10May.l0] at H;by_cases c8:af < (an.length:Int)
   ·rw [if_pos c8] at H;have cJ:decide (af < (an.length:Int))=true:=decide_eq_true c8;clear c8;by_cases c9:0≤af
    ·rw [if_pos c9] at H;have cU:decide (0≤af)=true:=decide_eq_true c9;clear c9;by_cases c10:af < (an.length:Int)
     ·rw [if_pos c10] at H;have cK:decide (af < (an.length:Int))=true:=decide_eq_true c10;clear c10;by_cases c11:(rd an af) < (l2.length:Int)
      ·rw [if_pos c11] at H;have cj:decide ((rd an af) < (l2.length:Int))=true:=decide_eq_true c11;clear c11;by_cases c12:0≤(rd an af)
       ·rw [if_pos c12] at H;have cM:decide (0≤(rd an af))=true:=decide_eq_true c12;clear c12;by_cases c13:af < (ao.length:Int)
        ·rw [if_pos c13] at H;have cO:decide (af < (ao.length:Int))=true:=decide_eq_true c13;clear c13;by_cases c14:(rd l2 (rd an af))=(rd ao af)
         ·rw [if_pos c14] at H;have ck:((rd l2 (rd an af)) == (rd ao af))=true:=beq_iff_eq.mpr c14;have cl:((rd l2 (rd an af)) != (rd ao af))=false:=bne_eq_false_iff_eq.mpr c14;clear c14;have H':=qK H;clear H;have bd:0≤(af:Int):=of_decide_eq_true (by assumption);have be:af < (an.length:Int):=of_decide_eq_true (by assumption);obtain ⟨cm,bS,au⟩:=Kd.at_int bR.out af bd be;cases bS
          replace au:=(HB.out.cell (World.block_lt_of_cell? w _ au)).trans au;replace bd:=eq_true bd;replace be:=eq_true be;have bp:0≤((rd an af):Int):=of_decide_eq_true (by assumption);have bq:(rd an af) < (l2.length:Int):=of_decide_eq_true (by assumption);obtain ⟨cP,cA,aD⟩:=Kd.at_int cg.out (rd an af) bp bq;cases cA
          replace aD:=(HB.out.cell (World.block_lt_of_cell? w _ aD)).trans aD;replace bp:=eq_true bp;replace bq:=eq_true bq;have da:=al.out;have db:=am.out;have bT:wr.cell? ⟨ac,0,none⟩=some (.slice aG ao.length aH):=(qC aa.out 0).trans rfl;have bU:wr.cell? ⟨ac,1,none⟩=some (.slice aI ar.length aJ):=(qC aa.out 1).trans rfl;have bV:=qF aa.out 0;have bW:=qF aa.out 1;have br:0≤(af:Int):=of_decide_eq_true (by assumption);have bs:af < (ao.length:Int):=of_decide_eq_true (by assumption);obtain ⟨cQ,cC,aE⟩:=Kd.at_int bc.out af br bs;cases cC
          replace aE:=(HB.out.cell (World.block_lt_of_cell? w _ aE)).trans aE;replace br:=eq_true br;replace bs:=eq_true bs;go_wp2
          repeat (go_quiet (fail);try go_wp2)
          go_roundg k1
          case measure=>have:=cF.out;omega
          case rel=>exact ⟨(wrap64 (af + 1)),(by rfl),H',⟨by have:=cF.out;omega⟩,⟨aa.out⟩,⟨ab.out⟩,⟨by repeat (first|(with_reducible first|exact HB.out|apply qA|apply qD|apply qO|refine qS ?_ az.out|refine qS ?_ aA.out)|exact HB.out)⟩⟩
         ·rw [if_neg c14] at H;have ck:((rd l2 (rd an af)) == (rd ao af))=false:=beq_eq_false_iff_ne.mpr c14;have cl:((rd l2 (rd an af)) != (rd ao af))=true:=bne_iff_ne.mpr c14;obtain rfl:=Option.some.inj H;have bd:0≤(af:Int):=of_decide_eq_true (by assumption);have be:af < (an.length:Int):=of_decide_eq_true (by assumption);obtain ⟨cm,bS,au⟩:=Kd.at_int bR.out af bd be;cases bS
          replace au:=(HB.out.cell (World.block_lt_of_cell? w _ au)).trans au;replace bd:=eq_true bd;replace be:=eq_true be;have bp:0≤((rd an af):Int):=of_decide_eq_true (by assumption);have bq:(rd an af) < (l2.length:Int):=of_decide_eq_true (by assumption);obtain ⟨cP,cA,aD⟩:=Kd.at_int cg.out (rd an af) bp bq;cases cA
          replace aD:=(HB.out.cell (World.block_lt_of_cell? w _ aD)).trans aD;replace bp:=eq_true bp;replace bq:=eq_true bq;have dc:=al.out;have dd:=am.out;have bX:wr.cell? ⟨ac,0,none⟩=some (.slice aG ao.length aH):=(qC aa.out 0).trans rfl;have bY:wr.cell? ⟨ac,1,none⟩=some (.slice aI ar.length aJ):=(qC aa.out 1).trans rfl;have bZ:=qF aa.out 0;have ca:=qF aa.out 1;have br:0≤(af:Int):=of_decide_eq_true (by assumption);have bs:af < (ao.length:Int):=of_decide_eq_true (by assumption);obtain ⟨cQ,cC,aE⟩:=Kd.at_int bc.out af br bs;cases cC
          replace aE:=(HB.out.cell (World.block_lt_of_cell? w _ aE)).trans aE;replace br:=eq_true br;replace bs:=eq_true bs;go_wp2
          repeat (go_quiet (fail);try go_wp2)
          go_ret
          exact ⟨by rfl,by repeat (first|(with_reducible first|exact HB.out|apply qA|apply qD|apply qO|refine qS ?_ az.out|refine qS ?_ aA.out)|exact HB.out)⟩
        ·rw [if_neg c13] at H;exact absurd H (by simp)
       ·rw [if_neg c12] at H;exact absurd H (by simp)
      ·rw [if_neg c11] at H;have cj:decide ((rd an af) < (l2.length:Int))=false:=decide_eq_false c11;clear c11;have H':=qK H;clear H;have bd:0≤(af:Int):=of_decide_eq_true (by assumption);have be:af < (an.length:Int):=of_decide_eq_true (by assumption);obtain ⟨cm,bS,au⟩:=Kd.at_int bR.out af bd be;cases bS
       replace au:=(HB.out.cell (World.block_lt_of_cell? w _ au)).trans au;replace bd:=eq_true bd;replace be:=eq_true be;go_wp2
       repeat (go_quiet (fail);try go_wp2)
       go_roundg k1
       case measure=>have:=cF.out;omega
       case rel=>exact ⟨(wrap64 (af + 1)),(by rfl),H',⟨by have:=cF.out;omega⟩,⟨aa.out⟩,⟨ab.out⟩,⟨by repeat (first|(with_reducible first|exact HB.out|apply qA|apply qD|apply qO|refine qS ?_ az.out|refine qS ?_ aA.out)|exact HB.out)⟩⟩
     ·rw [if_neg c10] at H;exact absurd H (by simp)
    ·rw [if_neg c9] at H;exact absurd H (by simp)
   ·rw [if_neg c8] at H;have cJ:decide (af < (an.length:Int))=false:=decide_eq_false c8;clear c8;have H':=qK H;clear H;have de:=am.out;have df:=al.out;have cb:wr.cell? ⟨aj,0,none⟩=some (.slice aQ an.length aT):=(qC ab.out 0).trans rfl;have cc:wr.cell? ⟨aj,1,none⟩=some (.slice bf ai.length aU):=(qC ab.out 1).trans rfl;have cd:=qF ab.out 0;have ce:=qF ab.out 1;go_wp2
    repeat (go_quiet (fail);try go_wp2)
    go_loopg [39] k1 (fun kq dp w'=>∃ (ag:Int),dp=.int .i64 ag∧Aside0 (spec_l10May.l1 kq l2 ai (ai.length:Int) ag ao ar=some r)∧Aside0 (kq≤k1)∧Aside0 (w'.heap[ac]?=some (.cells #[(.slice aG ao.length aH),(.slice aI ar.length aJ)] 32 (0,0)))∧Aside0 (w'.heap[aj]?=some (.cells #[(.slice aQ an.length aT),(.slice bf ai.length aU)] 32 (0,0)))∧Aside0 (Below w.heap.size w w'))
    case atStart=>exact ⟨(0),(by rfl),H',⟨Nat.le_refl _⟩,⟨aa.out⟩,⟨ab.out⟩,⟨HB.out⟩⟩
    case round =>
     clear H';try clear c1
     try clear c2
     try clear p2
     try clear p3
     try clear q3
     try clear hx3
     try clear c6
     try clear p6
     try clear c8
     try clear cJ
     try clear c9
     try clear cU
     try clear c10
     try clear cK
     try clear c11
     try clear cj
     try clear c12
     try clear cM
     try clear c13
     try clear cO
     try clear c14
     try clear ck
     try clear cl
     try clear c15
     try clear c17
     try clear c18
     try clear c19
     try clear bT
     try clear bU
     try clear bX
     try clear bY
     try clear cb
     try clear cc
     try clear bl
     try clear bm
     try clear bV
     try clear bW
     try clear bZ
     try clear ca
     try clear cd
     try clear ce
     try clear bn
     try clear bo
     try clear au
     try clear aD
     try clear aE
     try clear p2
     try clear bd
     try clear bp
     try clear br
     try clear be
     try clear bq
     try clear bs
     obtain ⟨ag,rfl,HA,dg,aa,ab,HB⟩:=hrel;cases gk with
     | zero=>exact absurd HA.out (by simp [spec_l10May.l1])
     | succ k2 =>
      have H:=HA.out;clear HA;simp only [spec_l10May.l1] at H;by_cases c21:ag < (ai.length:Int)
      ·rw [if_pos c21] at H;have cR:decide (ag < (ai.length:Int))=true:=decide_eq_true c21;clear c21;by_cases c22:0≤ag
       ·rw [if_pos c22] at H;have dh:decide (0≤ag)=true:=decide_eq_true c22;clear c22;by_cases c23:ag < (ai.length:Int)
        ·rw [if_pos c23] at H;have di:decide (ag < (ai.length:Int))=true:=decide_eq_true c23;clear c23;replace H:=Option.bind_eq_some_iff.mp H;obtain ⟨cS,cT,H⟩:=H;replace H:(if cS=true then (spec_l10May.l1 k2 l2 ai (ai.length:Int) (wrap64 (ag + 1)) ao ar) else (some false))=some r:=H;have cG:=qK cT;clear cT;by_cases c25:cS=true
         ·subst c25;have H1:(spec_l10May.l1 k2 l2 ai (ai.length:Int) (wrap64 (ag + 1)) ao ar)=some r:=by rw [if_pos rfl] at H;exact H
          clear H;have H:=H1;clear H1;have H':=qK H;clear H;have bw:0≤(ag:Int):=of_decide_eq_true (by assumption);have bx:ag < (ai.length:Int):=of_decide_eq_true (by assumption);obtain ⟨bg,aX,aY,cD,aK,aM,ba,bb⟩:=at_T97 cf.out ag bw bx;cases cD
          replace aK:=(HB.out.cell (World.block_lt_of_cell? w _ aK)).trans aK;replace aM:=(HB.out.cell (World.block_lt_of_cell? w _ aM)).trans aM;have aN:=qK bb;have aP:=qK ba;clear bb ba;replace bw:=eq_true bw;replace bx:=eq_true bx;go_wp2_with (first|((with_reducible refine gate_dst (N:=10) rfl ?_);refine box_event ?hg (N:=10) ?hd (cs:=#[.int .i64 0,.slice none 0 0]) (t:=97) ?hr ?_;(case hd=>rfl);(case hg=>rfl);(case hr=>(go_simp;try rfl));intro ak hg bz hbox hb;have ax:=qK (qB (g:=ac) (o:=_) aa.out hb);have ay:=qK (qB (g:=aj) (o:=_) ab.out hb);have av:=qK (qT HB.out hb);have aw:=qK (hbox);have aV:=qK ((by rw [hg];exact (qZ HB.out):w.heap.size≤ak));have aZ:=aV;have aW:=qK ((by rw [hg];exact Nat.ne_of_lt (blk_lt (g:=ac) (o:=_) aa.out):ac ≠ ak));have bt:=qK aW.out.symm;have bh:=qK ((by rw [hg];exact Nat.ne_of_lt (blk_lt (g:=aj) (o:=_) ab.out):aj ≠ ak));have bu:=qK bh.out.symm;clear aa ab HB;have aa:=ax;have ab:=ay;have HB:=av;have ah:=aw;have bv:=aV;have aC:=aZ;have ad:=aW;have ap:=bt;have ae:=bh;have aq:=bu;clear ax ay av aw aV aZ aW bt bh bu hb hbox hg;have cn:=ap.out;have co:=ad.out;have cp:=aq.out;have cq:=ae.out;have bA:bz.cell? ⟨ak,0,none⟩=some (.int .i64 0):=(qC ah.out 0).trans rfl;have bB:bz.cell? ⟨ak,1,none⟩=some (.slice none 0 0):=(qC ah.out 1).trans rfl;have bC:=qF ah.out 0;have bD:=qF ah.out 1;have cr:=al.out;have ct:=am.out;have bE:bz.cell? ⟨ac,0,none⟩=some (.slice aG ao.length aH):=(qC aa.out 0).trans rfl;have bF:bz.cell? ⟨ac,1,none⟩=some (.slice aI ar.length aJ):=(qC aa.out 1).trans rfl;have bG:=qF aa.out 0;have bH:=qF aa.out 1)|(go_at_call 183;(with_reducible refine (spec_l10HasAtom.calls k2 _ _ ao _ _ ar ((rd_T97 ai ag).f0) _ _ ((rd_T97 ai ag).f1) _ _ l2 true _ ?side1 ?side2 ?side3 ?side4 ?side5 ?side6 ?side7 ?side8 cG.out).mono ?_);(case side1=>exact cB bc.out (by repeat (with_reducible first|exact HB.out|apply qA|apply qD|apply qO|refine qS ?_ az.out|refine qS ?_ aA.out|refine qS ?_ aC.out)));(case side2=>exact bi.out);(case side3=>exact cB bj.out (by repeat (with_reducible first|exact HB.out|apply qA|apply qD|apply qO|refine qS ?_ az.out|refine qS ?_ aA.out|refine qS ?_ aC.out)));(case side4=>exact bk.out);(case side5=>exact cB aN.out (by repeat (with_reducible first|exact HB.out|apply qA|apply qD|apply qO|refine qS ?_ az.out|refine qS ?_ aA.out|refine qS ?_ aC.out)));(case side6=>exact aP.out);(case side7=>exact cB cg.out (by repeat (with_reducible first|exact HB.out|apply qA|apply qD|apply qO|refine qS ?_ az.out|refine qS ?_ aA.out|refine qS ?_ aC.out)));(case side8=>exact cE.out);rintro e dj ⟨rfl,hb⟩;have ax:=qK (qB (g:=ac) (o:=.cells #[.slice aG ao.length aH,.slice aI ar.length aJ] 32 (0,0)) (by (with_reducible repeat (first|refine qN ?_ _|refine qW ?_|refine qL ?_ _));refine qR ?_ ad.out _;(with_reducible repeat (first|refine qN ?_ _|refine qW ?_|refine qL ?_ _));refine qR ?_ ad.out _;(with_reducible repeat (first|refine qN ?_ _|refine qW ?_|refine qL ?_ _));exact aa.out) hb);have ay:=qK (qB (g:=aj) (o:=.cells #[.slice aQ an.length aT,.slice (some bg) ai.length aU] 32 (0,0)) (by (with_reducible repeat (first|refine qN ?_ _|refine qW ?_|refine qL ?_ _));refine qR ?_ ae.out _;(with_reducible repeat (first|refine qN ?_ _|refine qW ?_|refine qL ?_ _));refine qR ?_ ae.out _;(with_reducible repeat (first|refine qN ?_ _|refine qW ?_|refine qL ?_ _));exact ab.out) hb);have av:=qK (qB (g:=ak) (o:=.cells #[.int .i64 ((rd_T97 ai ag).f0),.slice aX ((rd_T97 ai ag).f1).length aY] 97 (0,0)) (by (with_reducible repeat (first|refine qN ?_ _|refine qW ?_|refine qL ?_ _));refine qP (cs:=#[.int .i64 ((rd_T97 ai ag).f0),.slice none 0 0]) ?_ 1 _ rfl;(with_reducible repeat (first|refine qN ?_ _|refine qW ?_|refine qL ?_ _));refine qP (cs:=#[.int .i64 0,.slice none 0 0]) ?_ 0 _ rfl;(with_reducible repeat (first|refine qN ?_ _|refine qW ?_|refine qL ?_ _));exact ah.out) hb);have aw:=qK (qT (by repeat (with_reducible first|exact HB.out|apply qA|apply qD|apply qO|refine qS ?_ az.out|refine qS ?_ aA.out|refine qS ?_ aC.out)) hb);clear aa ab ah HB;have aa:=ax;have ab:=ay;have ah:=av;have HB:=aw;clear ax ay av aw;(try clear hb)))
          repeat (go_quiet (first|((with_reducible refine gate_dst (N:=10) rfl ?_);refine box_event ?hg (N:=10) ?hd (cs:=#[.int .i64 0,.slice none 0 0]) (t:=97) ?hr ?_;(case hd=>rfl);(case hg=>rfl);(case hr=>(go_simp;try rfl));intro ak hg bz hbox hb;have ax:=qK (qB (g:=ac) (o:=_) aa.out hb);have ay:=qK (qB (g:=aj) (o:=_) ab.out hb);have av:=qK (qT HB.out hb);have aw:=qK (hbox);have aV:=qK ((by rw [hg];exact (qZ HB.out):w.heap.size≤ak));have aZ:=aV;have aW:=qK ((by rw [hg];exact Nat.ne_of_lt (blk_lt (g:=ac) (o:=_) aa.out):ac ≠ ak));have bt:=qK aW.out.symm;have bh:=qK ((by rw [hg];exact Nat.ne_of_lt (blk_lt (g:=aj) (o:=_) ab.out):aj ≠ ak));have bu:=qK bh.out.symm;clear aa ab HB;have aa:=ax;have ab:=ay;have HB:=av;have ah:=aw;have bv:=aV;have aC:=aZ;have ad:=aW;have ap:=bt;have ae:=bh;have aq:=bu;clear ax ay av aw aV aZ aW bt bh bu hb hbox hg;have cn:=ap.out;have co:=ad.out;have cp:=aq.out;have cq:=ae.out;have bA:bz.cell? ⟨ak,0,none⟩=some (.int .i64 0):=(qC ah.out 0).trans rfl;have bB:bz.cell? ⟨ak,1,none⟩=some (.slice none 0 0):=(qC ah.out 1).trans rfl;have bC:=qF ah.out 0;have bD:=qF ah.out 1;have cr:=al.out;have ct:=am.out;have bE:bz.cell? ⟨ac,0,none⟩=some (.slice aG ao.length aH):=(qC aa.out 0).trans rfl;have bF:bz.cell? ⟨ac,1,none⟩=some (.slice aI ar.length aJ):=(qC aa.out 1).trans rfl;have bG:=qF aa.out 0;have bH:=qF aa.out 1)|(go_at_call 183;(with_reducible refine (spec_l10HasAtom.calls k2 _ _ ao _ _ ar ((rd_T97 ai ag).f0) _ _ ((rd_T97 ai ag).f1) _ _ l2 true _ ?side1 ?side2 ?side3 ?side4 ?side5 ?side6 ?side7 ?side8 cG.out).mono ?_);(case side1=>exact cB bc.out HB.out);(case side2=>exact bi.out);(case side3=>exact cB bj.out HB.out);(case side4=>exact bk.out);(case side5=>exact cB aN.out HB.out);(case side6=>exact aP.out);(case side7=>exact cB cg.out HB.out);(case side8=>exact cE.out);rintro e dj ⟨rfl,hb⟩;have ax:=qK (qB (g:=ac) (o:=.cells #[.slice aG ao.length aH,.slice aI ar.length aJ] 32 (0,0)) (by (with_reducible repeat (first|refine qN ?_ _|refine qW ?_|refine qL ?_ _));refine qR ?_ ad.out _;(with_reducible repeat (first|refine qN ?_ _|refine qW ?_|refine qL ?_ _));refine qR ?_ ad.out _;(with_reducible repeat (first|refine qN ?_ _|refine qW ?_|refine qL ?_ _));exact aa.out) hb);have ay:=qK (qB (g:=aj) (o:=.cells #[.slice aQ an.length aT,.slice (some bg) ai.length aU] 32 (0,0)) (by (with_reducible repeat (first|refine qN ?_ _|refine qW ?_|refine qL ?_ _));refine qR ?_ ae.out _;(with_reducible repeat (first|refine qN ?_ _|refine qW ?_|refine qL ?_ _));refine qR ?_ ae.out _;(with_reducible repeat (first|refine qN ?_ _|refine qW ?_|refine qL ?_ _));exact ab.out) hb);have av:=qK (qB (g:=ak) (o:=.cells #[.int .i64 ((rd_T97 ai ag).f0),.slice aX ((rd_T97 ai ag).f1).length aY] 97 (0,0)) (by (with_reducible repeat (first|refine qN ?_ _|refine qW ?_|refine qL ?_ _));refine qP (cs:=#[.int .i64 ((rd_T97 ai ag).f0),.slice none 0 0]) ?_ 1 _ rfl;(with_reducible repeat (first|refine qN ?_ _|refine qW ?_|refine qL ?_ _));refine qP (cs:=#[.int .i64 0,.slice none 0 0]) ?_ 0 _ rfl;(with_reducible repeat (first|refine qN ?_ _|refine qW ?_|refine qL ?_ _));exact ah.out) hb);have aw:=qK (qT HB.out hb);clear aa ab ah HB;have aa:=ax;have ab:=ay;have ah:=av;have HB:=aw;clear ax ay av aw;(try clear hb)));try go_wp2_with (first|((with_reducible refine gate_dst (N:=10) rfl ?_);refine box_event ?hg (N:=10) ?hd (cs:=#[.int .i64 0,.slice none 0 0]) (t:=97) ?hr ?_;(case hd=>rfl);(case hg=>rfl);(case hr=>(go_simp;try rfl));intro ak hg bz hbox hb;have ax:=qK (qB (g:=ac) (o:=_) aa.out hb);have ay:=qK (qB (g:=aj) (o:=_) ab.out hb);have av:=qK (qT HB.out hb);have aw:=qK (hbox);have aV:=aV;have aZ:=aV;have aW:=qK ((by rw [hg];exact Nat.ne_of_lt (blk_lt (g:=ac) (o:=_) aa.out):ac ≠ ak));have bt:=qK aW.out.symm;have bh:=qK ((by rw [hg];exact Nat.ne_of_lt (blk_lt (g:=aj) (o:=_) ab.out):aj ≠ ak));have bu:=qK bh.out.symm;clear aa ab HB;have aa:=ax;have ab:=ay;have HB:=av;have ah:=aw;have bv:=aV;have aC:=aZ;have ad:=aW;have ap:=bt;have ae:=bh;have aq:=bu;clear ax ay av aw aV aZ aW bt bh bu hb hbox hg;have cn:=ap.out;have co:=ad.out;have cp:=aq.out;have cq:=ae.out;have bA:bz.cell? ⟨ak,0,none⟩=some (.int .i64 0):=(qC ah.out 0).trans rfl;have bB:bz.cell? ⟨ak,1,none⟩=some (.slice none 0 0):=(qC ah.out 1).trans rfl;have bC:=qF ah.out 0;have bD:=qF ah.out 1;have cr:=al.out;have ct:=am.out;have bE:bz.cell? ⟨ac,0,none⟩=some (.slice aG ao.length aH):=(qC aa.out 0).trans rfl;have bF:bz.cell? ⟨ac,1,none⟩=some (.slice aI ar.length aJ):=(qC aa.out 1).trans rfl;have bG:=qF aa.out 0;have bH:=qF aa.out 1)|(go_at_call 183;(with_reducible refine (spec_l10HasAtom.calls k2 _ _ ao _ _ ar ((rd_T97 ai ag).f0) _ _ ((rd_T97 ai ag).f1) _ _ l2 true _ ?side1 ?side2 ?side3 ?side4 ?side5 ?side6 ?side7 ?side8 cG.out).mono ?_);(case side1=>exact cB bc.out HB.out);(case side2=>exact bi.out);(case side3=>exact cB bj.out HB.out);(case side4=>exact bk.out);(case side5=>exact cB aN.out HB.out);(case side6=>exact aP.out);(case side7=>exact cB cg.out HB.out);(case side8=>exact cE.out);rintro e dj ⟨rfl,hb⟩;have ax:=qK (qB (g:=ac) (o:=.cells #[.slice aG ao.length aH,.slice aI ar.length aJ] 32 (0,0)) (by (with_reducible repeat (first|refine qN ?_ _|refine qW ?_|refine qL ?_ _));refine qR ?_ ad.out _;(with_reducible repeat (first|refine qN ?_ _|refine qW ?_|refine qL ?_ _));refine qR ?_ ad.out _;(with_reducible repeat (first|refine qN ?_ _|refine qW ?_|refine qL ?_ _));exact aa.out) hb);have ay:=qK (qB (g:=aj) (o:=.cells #[.slice aQ an.length aT,.slice (some bg) ai.length aU] 32 (0,0)) (by (with_reducible repeat (first|refine qN ?_ _|refine qW ?_|refine qL ?_ _));refine qR ?_ ae.out _;(with_reducible repeat (first|refine qN ?_ _|refine qW ?_|refine qL ?_ _));refine qR ?_ ae.out _;(with_reducible repeat (first|refine qN ?_ _|refine qW ?_|refine qL ?_ _));exact ab.out) hb);have av:=qK (qB (g:=ak) (o:=.cells #[.int .i64 ((rd_T97 ai ag).f0),.slice aX ((rd_T97 ai ag).f1).length aY] 97 (0,0)) (by (with_reducible repeat (first|refine qN ?_ _|refine qW ?_|refine qL ?_ _));refine qP (cs:=#[.int .i64 ((rd_T97 ai ag).f0),.slice none 0 0]) ?_ 1 _ rfl;(with_reducible repeat (first|refine qN ?_ _|refine qW ?_|refine qL ?_ _));refine qP (cs:=#[.int .i64 0,.slice none 0 0]) ?_ 0 _ rfl;(with_reducible repeat (first|refine qN ?_ _|refine qW ?_|refine qL ?_ _));exact ah.out) hb);have aw:=qK (qT HB.out hb);clear aa ab ah HB;have aa:=ax;have ab:=ay;have ah:=av;have HB:=aw;clear ax ay av aw;(try clear hb))))
          go_roundg k2
          case measure=>have:=cF.out;have:=dg.out;omega
          case rel=>exact ⟨(wrap64 (ag + 1)),(by rfl),H',⟨by have:=cF.out;have:=dg.out;omega⟩,⟨aa.out⟩,⟨ab.out⟩,⟨HB.out⟩⟩
         ·replace c25:=Bool.eq_false_iff.mpr c25;subst c25;have H1:(some false)=some r:=by rw [if_neg (show ¬ (false=true) by decide)] at H;exact H
          clear H;have H:=H1;clear H1;obtain rfl:=Option.some.inj H;have bw:0≤(ag:Int):=of_decide_eq_true (by assumption);have bx:ag < (ai.length:Int):=of_decide_eq_true (by assumption);obtain ⟨bg,aX,aY,cD,aK,aM,ba,bb⟩:=at_T97 cf.out ag bw bx;cases cD
          replace aK:=(HB.out.cell (World.block_lt_of_cell? w _ aK)).trans aK;replace aM:=(HB.out.cell (World.block_lt_of_cell? w _ aM)).trans aM;have aN:=qK bb;have aP:=qK ba;clear bb ba;replace bw:=eq_true bw;replace bx:=eq_true bx;go_wp2_with (first|((with_reducible refine gate_dst (N:=10) rfl ?_);refine box_event ?hg (N:=10) ?hd (cs:=#[.int .i64 0,.slice none 0 0]) (t:=97) ?hr ?_;(case hd=>rfl);(case hg=>rfl);(case hr=>(go_simp;try rfl));intro ak hg bI hbox hb;have ax:=qK (qB (g:=ac) (o:=_) aa.out hb);have ay:=qK (qB (g:=aj) (o:=_) ab.out hb);have av:=qK (qT HB.out hb);have aw:=qK (hbox);have aV:=qK ((by rw [hg];exact (qZ HB.out):w.heap.size≤ak));have aZ:=aV;have aW:=qK ((by rw [hg];exact Nat.ne_of_lt (blk_lt (g:=ac) (o:=_) aa.out):ac ≠ ak));have bt:=qK aW.out.symm;have bh:=qK ((by rw [hg];exact Nat.ne_of_lt (blk_lt (g:=aj) (o:=_) ab.out):aj ≠ ak));have bu:=qK bh.out.symm;clear aa ab HB;have aa:=ax;have ab:=ay;have HB:=av;have ah:=aw;have bv:=aV;have aC:=aZ;have ad:=aW;have ap:=bt;have ae:=bh;have aq:=bu;clear ax ay av aw aV aZ aW bt bh bu hb hbox hg;have cu:=ap.out;have cv:=ad.out;have cw:=aq.out;have cx:=ae.out;have bJ:bI.cell? ⟨ak,0,none⟩=some (.int .i64 0):=(qC ah.out 0).trans rfl;have bK:bI.cell? ⟨ak,1,none⟩=some (.slice none 0 0):=(qC ah.out 1).trans rfl;have bL:=qF ah.out 0;have bM:=qF ah.out 1;have cy:=al.out;have cz:=am.out;have bN:bI.cell? ⟨ac,0,none⟩=some (.slice aG ao.length aH):=(qC aa.out 0).trans rfl;have bO:bI.cell? ⟨ac,1,none⟩=some (.slice aI ar.length aJ):=(qC aa.out 1).trans rfl;have bP:=qF aa.out 0;have bQ:=qF aa.out 1)|(go_at_call 183;(with_reducible refine (spec_l10HasAtom.calls k2 _ _ ao _ _ ar ((rd_T97 ai ag).f0) _ _ ((rd_T97 ai ag).f1) _ _ l2 false _ ?side1 ?side2 ?side3 ?side4 ?side5 ?side6 ?side7 ?side8 cG.out).mono ?_);(case side1=>exact cB bc.out (by repeat (with_reducible first|exact HB.out|apply qA|apply qD|apply qO|refine qS ?_ az.out|refine qS ?_ aA.out|refine qS ?_ aC.out)));(case side2=>exact bi.out);(case side3=>exact cB bj.out (by repeat (with_reducible first|exact HB.out|apply qA|apply qD|apply qO|refine qS ?_ az.out|refine qS ?_ aA.out|refine qS ?_ aC.out)));(case side4=>exact bk.out);(case side5=>exact cB aN.out (by repeat (with_reducible first|exact HB.out|apply qA|apply qD|apply qO|refine qS ?_ az.out|refine qS ?_ aA.out|refine qS ?_ aC.out)));(case side6=>exact aP.out);(case side7=>exact cB cg.out (by repeat (with_reducible first|exact HB.out|apply qA|apply qD|apply qO|refine qS ?_ az.out|refine qS ?_ aA.out|refine qS ?_ aC.out)));(case side8=>exact cE.out);rintro e dk ⟨rfl,hb⟩;have ax:=qK (qB (g:=ac) (o:=.cells #[.slice aG ao.length aH,.slice aI ar.length aJ] 32 (0,0)) (by (with_reducible repeat (first|refine qN ?_ _|refine qW ?_|refine qL ?_ _));refine qR ?_ ad.out _;(with_reducible repeat (first|refine qN ?_ _|refine qW ?_|refine qL ?_ _));refine qR ?_ ad.out _;(with_reducible repeat (first|refine qN ?_ _|refine qW ?_|refine qL ?_ _));exact aa.out) hb);have ay:=qK (qB (g:=aj) (o:=.cells #[.slice aQ an.length aT,.slice (some bg) ai.length aU] 32 (0,0)) (by (with_reducible repeat (first|refine qN ?_ _|refine qW ?_|refine qL ?_ _));refine qR ?_ ae.out _;(with_reducible repeat (first|refine qN ?_ _|refine qW ?_|refine qL ?_ _));refine qR ?_ ae.out _;(with_reducible repeat (first|refine qN ?_ _|refine qW ?_|refine qL ?_ _));exact ab.out) hb);have av:=qK (qB (g:=ak) (o:=.cells #[.int .i64 ((rd_T97 ai ag).f0),.slice aX ((rd_T97 ai ag).f1).length aY] 97 (0,0)) (by (with_reducible repeat (first|refine qN ?_ _|refine qW ?_|refine qL ?_ _));refine qP (cs:=#[.int .i64 ((rd_T97 ai ag).f0),.slice none 0 0]) ?_ 1 _ rfl;(with_reducible repeat (first|refine qN ?_ _|refine qW ?_|refine qL ?_ _));refine qP (cs:=#[.int .i64 0,.slice none 0 0]) ?_ 0 _ rfl;(with_reducible repeat (first|refine qN ?_ _|refine qW ?_|refine qL ?_ _));exact ah.out) hb);have aw:=qK (qT (by repeat (with_reducible first|exact HB.out|apply qA|apply qD|apply qO|refine qS ?_ az.out|refine qS ?_ aA.out|refine qS ?_ aC.out)) hb);clear aa ab ah HB;have aa:=ax;have ab:=ay;have ah:=av;have HB:=aw;clear ax ay av aw;(try clear hb)))
          repeat (go_quiet (first|((with_reducible refine gate_dst (N:=10) rfl ?_);refine box_event ?hg (N:=10) ?hd (cs:=#[.int .i64 0,.slice none 0 0]) (t:=97) ?hr ?_;(case hd=>rfl);(case hg=>rfl);(case hr=>(go_simp;try rfl));intro ak hg bI hbox hb;have ax:=qK (qB (g:=ac) (o:=_) aa.out hb);have ay:=qK (qB (g:=aj) (o:=_) ab.out hb);have av:=qK (qT HB.out hb);have aw:=qK (hbox);have aV:=qK ((by rw [hg];exact (qZ HB.out):w.heap.size≤ak));have aZ:=aV;have aW:=qK ((by rw [hg];exact Nat.ne_of_lt (blk_lt (g:=ac) (o:=_) aa.out):ac ≠ ak));have bt:=qK aW.out.symm;have bh:=qK ((by rw [hg];exact Nat.ne_of_lt (blk_lt (g:=aj) (o:=_) ab.out):aj ≠ ak));have bu:=qK bh.out.symm;clear aa ab HB;have aa:=ax;have ab:=ay;have HB:=av;have ah:=aw;have bv:=aV;have aC:=aZ;have ad:=aW;have ap:=bt;have ae:=bh;have aq:=bu;clear ax ay av aw aV aZ aW bt bh bu hb hbox hg;have cu:=ap.out;have cv:=ad.out;have cw:=aq.out;have cx:=ae.out;have bJ:bI.cell? ⟨ak,0,none⟩=some (.int .i64 0):=(qC ah.out 0).trans rfl;have bK:bI.cell? ⟨ak,1,none⟩=some (.slice none 0 0):=(qC ah.out 1).trans rfl;have bL:=qF ah.out 0;have bM:=qF ah.out 1;have cy:=al.out;have cz:=am.out;have bN:bI.cell? ⟨ac,0,none⟩=some (.slice aG ao.length aH):=(qC aa.out 0).trans rfl;have bO:bI.cell? ⟨ac,1,none⟩=some (.slice aI ar.length aJ):=(qC aa.out 1).trans rfl;have bP:=qF aa.out 0;have bQ:=qF aa.out 1)|(go_at_call 183;(with_reducible refine (spec_l10HasAtom.calls k2 _ _ ao _ _ ar ((rd_T97 ai ag).f0) _ _ ((rd_T97 ai ag).f1) _ _ l2 false _ ?side1 ?side2 ?side3 ?side4 ?side5 ?side6 ?side7 ?side8 cG.out).mono ?_);(case side1=>exact cB bc.out HB.out);(case side2=>exact bi.out);(case side3=>exact cB bj.out HB.out);(case side4=>exact bk.out);(case side5=>exact cB aN.out HB.out);(case side6=>exact aP.out);(case side7=>exact cB cg.out HB.out);(case side8=>exact cE.out);rintro e dk ⟨rfl,hb⟩;have ax:=qK (qB (g:=ac) (o:=.cells #[.slice aG ao.length aH,.slice aI ar.length aJ] 32 (0,0)) (by (with_reducible repeat (first|refine qN ?_ _|refine qW ?_|refine qL ?_ _));refine qR ?_ ad.out _;(with_reducible repeat (first|refine qN ?_ _|refine qW ?_|refine qL ?_ _));refine qR ?_ ad.out _;(with_reducible repeat (first|refine qN ?_ _|refine qW ?_|refine qL ?_ _));exact aa.out) hb);have ay:=qK (qB (g:=aj) (o:=.cells #[.slice aQ an.length aT,.slice (some bg) ai.length aU] 32 (0,0)) (by (with_reducible repeat (first|refine qN ?_ _|refine qW ?_|refine qL ?_ _));refine qR ?_ ae.out _;(with_reducible repeat (first|refine qN ?_ _|refine qW ?_|refine qL ?_ _));refine qR ?_ ae.out _;(with_reducible repeat (first|refine qN ?_ _|refine qW ?_|refine qL ?_ _));exact ab.out) hb);have av:=qK (qB (g:=ak) (o:=.cells #[.int .i64 ((rd_T97 ai ag).f0),.slice aX ((rd_T97 ai ag).f1).length aY] 97 (0,0)) (by (with_reducible repeat (first|refine qN ?_ _|refine qW ?_|refine qL ?_ _));refine qP (cs:=#[.int .i64 ((rd_T97 ai ag).f0),.slice none 0 0]) ?_ 1 _ rfl;(with_reducible repeat (first|refine qN ?_ _|refine qW ?_|refine qL ?_ _));refine qP (cs:=#[.int .i64 0,.slice none 0 0]) ?_ 0 _ rfl;(with_reducible repeat (first|refine qN ?_ _|refine qW ?_|refine qL ?_ _));exact ah.out) hb);have aw:=qK (qT HB.out hb);clear aa ab ah HB;have aa:=ax;have ab:=ay;have ah:=av;have HB:=aw;clear ax ay av aw;(try clear hb)));try go_wp2_with (first|((with_reducible refine gate_dst (N:=10) rfl ?_);refine box_event ?hg (N:=10) ?hd (cs:=#[.int .i64 0,.slice none 0 0]) (t:=97) ?hr ?_;(case hd=>rfl);(case hg=>rfl);(case hr=>(go_simp;try rfl));intro ak hg bI hbox hb;have ax:=qK (qB (g:=ac) (o:=_) aa.out hb);have ay:=qK (qB (g:=aj) (o:=_) ab.out hb);have av:=qK (qT HB.out hb);have aw:=qK (hbox);have aV:=aV;have aZ:=aV;have aW:=qK ((by rw [hg];exact Nat.ne_of_lt (blk_lt (g:=ac) (o:=_) aa.out):ac ≠ ak));have bt:=qK aW.out.symm;have bh:=qK ((by rw [hg];exact Nat.ne_of_lt (blk_lt (g:=aj) (o:=_) ab.out):aj ≠ ak));have bu:=qK bh.out.symm;clear aa ab HB;have aa:=ax;have ab:=ay;have HB:=av;have ah:=aw;have bv:=aV;have aC:=aZ;have ad:=aW;have ap:=bt;have ae:=bh;have aq:=bu;clear ax ay av aw aV aZ aW bt bh bu hb hbox hg;have cu:=ap.out;have cv:=ad.out;have cw:=aq.out;have cx:=ae.out;have bJ:bI.cell? ⟨ak,0,none⟩=some (.int .i64 0):=(qC ah.out 0).trans rfl;have bK:bI.cell? ⟨ak,1,none⟩=some (.slice none 0 0):=(qC ah.out 1).trans rfl;have bL:=qF ah.out 0;have bM:=qF ah.out 1;have cy:=al.out;have cz:=am.out;have bN:bI.cell? ⟨ac,0,none⟩=some (.slice aG ao.length aH):=(qC aa.out 0).trans rfl;have bO:bI.cell? ⟨ac,1,none⟩=some (.slice aI ar.length aJ):=(qC aa.out 1).trans rfl;have bP:=qF aa.out 0;have bQ:=qF aa.out 1)|(go_at_call 183;(with_reducible refine (spec_l10HasAtom.calls k2 _ _ ao _ _ ar ((rd_T97 ai ag).f0) _ _ ((rd_T97 ai ag).f1) _ _ l2 false _ ?side1 ?side2 ?side3 ?side4 ?side5 ?side6 ?side7 ?side8 cG.out).mono ?_);(case side1=>exact cB bc.out HB.out);(case side2=>exact bi.out);(case side3=>exact cB bj.out HB.out);(case side4=>exact bk.out);(case side5=>exact cB aN.out HB.out);(case side6=>exact aP.out);(case side7=>exact cB cg.out HB.out);(case side8=>exact cE.out);rintro e dk ⟨rfl,hb⟩;have ax:=qK (qB (g:=ac) (o:=.cells #[.slice aG ao.length aH,.slice aI ar.length aJ] 32 (0,0)) (by (with_reducible repeat (first|refine qN ?_ _|refine qW ?_|refine qL ?_ _));refine qR ?_ ad.out _;(with_reducible repeat (first|refine qN ?_ _|refine qW ?_|refine qL ?_ _));refine qR ?_ ad.out _;(with_reducible repeat (first|refine qN ?_ _|refine qW ?_|refine qL ?_ _));exact aa.out) hb);have ay:=qK (qB (g:=aj) (o:=.cells #[.slice aQ an.length aT,.slice (some bg) ai.length aU] 32 (0,0)) (by (with_reducible repeat (first|refine qN ?_ _|refine qW ?_|refine qL ?_ _));refine qR ?_ ae.out _;(with_reducible repeat (first|refine qN ?_ _|refine qW ?_|refine qL ?_ _));refine qR ?_ ae.out _;(with_reducible repeat (first|refine qN ?_ _|refine qW ?_|refine qL ?_ _));exact ab.out) hb);have av:=qK (qB (g:=ak) (o:=.cells #[.int .i64 ((rd_T97 ai ag).f0),.slice aX ((rd_T97 ai ag).f1).length aY] 97 (0,0)) (by (with_reducible repeat (first|refine qN ?_ _|refine qW ?_|refine qL ?_ _));refine qP (cs:=#[.int .i64 ((rd_T97 ai ag).f0),.slice none 0 0]) ?_ 1 _ rfl;(with_reducible repeat (first|refine qN ?_ _|refine qW ?_|refine qL ?_ _));refine qP (cs:=#[.int .i64 0,.slice none 0 0]) ?_ 0 _ rfl;(with_reducible repeat (first|refine qN ?_ _|refine qW ?_|refine qL ?_ _));exact ah.out) hb);have aw:=qK (qT HB.out hb);clear aa ab ah HB;have aa:=ax;have ab:=ay;have ah:=av;have HB:=aw;clear ax ay av aw;(try clear hb))))
          go_ret
          exact ⟨by rfl,HB.out⟩
        ·rw [if_neg c23] at H;exact absurd H (by simp)
       ·rw [if_neg c22] at H;exact absurd H (by simp)
      ·rw [if_neg c21] at H;have cR:decide (ag < (ai.length:Int))=false:=decide_eq_false c21;clear c21;obtain rfl:=Option.some.inj H;go_wp2
       repeat (go_quiet (fail);try go_wp2)
       go_ret
       exact ⟨by rfl,HB.out⟩

/-! ### spec_l10Map: function 149 -/
mutual
def spec_l10Map.l0 : Nat→List Int→List Int→Int→Int→List Int→List (S97)→List Int→List (S97)→Option (List Int × Bool)
 | 0,_,_,_,_,_,_,_,_=>none
 | k + 1,x3,x22,x23,x24,x317000,x317001,x318000,x318001=>if x24 < x23 then (if 0≤x24 then (if x24 < (x22.length:Int) then (if 0≤(rd x22 x24) then (if (rd x22 x24) < (x3.length:Int) then (if x24 < (x317000.length:Int) then (if (rd x3 (rd x22 x24))=(rd x317000 x24) then (spec_l10Map.l0 k x3 x22 x23 (wrap64 (x24 + 1)) x317000 x317001 x318000 x318001) else (some (([]:List Int),false))) else (none)) else (none)) else (none)) else (none)) else (none)) else (spec_l10Map.l1 k x3 x318001 (x318001.length:Int) 0 x317000 x317001)
def spec_l10Map.l1 : Nat→List Int→List (S97)→Int→Int→List Int→List (S97)→Option (List Int × Bool)
 | 0,_,_,_,_,_,_=>none
 | k + 1,x3,x41,x42,x43,x317000,x317001=>if x43 < x42 then (if 0≤x43 then (if x43 < (x41.length:Int) then ((spec_l10HasAtom.f k x317000 x317001 ((rd_T97 x41 x43).f0) ((rd_T97 x41 x43).f1) x3).bind fun t323=>(if t323=true then (spec_l10Map.l1 k x3 x41 x42 (wrap64 (x43 + 1)) x317000 x317001) else (some (([]:List Int),false)))) else (none)) else (none)) else ((some (([]:List Int):List Int)).bind fun y324=>(if y324.length + x3.length < 17592186044416 then (some ((y324 ++ x3),true)) else (none)))
def spec_l10Map.l2 : Nat→Int→List Int→List Int→Int→Int→List Int→List (S97)→List Int→List (S97)→Option (List Int × Bool)
 | 0,_,_,_,_,_,_,_,_,_=>none
 | k + 1,x2,x3,x74,x75,x76,x317000,x317001,x318000,x318001=>if x76 < x75 then (if 0≤x76 then (if x76 < (x74.length:Int) then ((some (([]:List Int):List Int)).bind fun y354=>(if y354.length + x3.length < 17592186044416 then ((some (y354 ++ x3:List Int)).bind fun y357=>((some (([rd x74 x76]:List Int):List Int)).bind fun y360=>(if y357.length + y360.length < 17592186044416 then ((some (y357 ++ y360:List Int)).bind fun y363=>((spec_l10May.f k x317000 x317001 x318000 x318001 y363).bind fun t366=>(if t366=true then ((spec_l10Map.f k x317000 x317001 x318000 x318001 (wrap64 (x2 + 1)) y363).bind fun bt367=>(if bt367.2=true then (some (bt367.1,true)) else (spec_l10Map.l2 k x2 x3 x74 x75 (wrap64 (x76 + 1)) x317000 x317001 x318000 x318001))) else (spec_l10Map.l2 k x2 x3 x74 x75 (wrap64 (x76 + 1)) x317000 x317001 x318000 x318001)))) else (none)))) else (none))) else (none)) else (none)) else (some (([]:List Int),false))
def spec_l10Map.f : Nat→List Int→List (S97)→List Int→List (S97)→Int→List Int→Option (List Int × Bool)
 | 0,_,_,_,_,_,_=>none
 | k + 1,l0_0,l0_1,l1_0,l1_1,a2,l3=>if a2=6 then (spec_l10Map.l0 k l3 l1_0 (l1_0.length:Int) 0 l0_0 l0_1 l1_0 l1_1) else ((spec_l10Vars.f k l1_0 l1_1).bind fun t330=>((spec_l1Has.f k t330 a2).bind fun t333=>(if t333=true then ((spec_l10Vars.f k l0_0 l0_1).bind fun t350=>(spec_l10Map.l2 k a2 l3 t350 (t350.length:Int) 0 l0_0 l0_1 l1_0 l1_1)) else ((some (([]:List Int):List Int)).bind fun y334=>(if y334.length + l3.length < 17592186044416 then ((some (y334 ++ l3:List Int)).bind fun y337=>((some (([0]:List Int):List Int)).bind fun y340=>(if y337.length + y340.length < 17592186044416 then ((spec_l10Map.f k l0_0 l0_1 l1_0 l1_1 (wrap64 (a2 + 1)) (y337 ++ y340)).bind fun bt346=>(some (bt346.1,bt346.2))) else (none)))) else (none))))))
end
theorem spec_l10Map.mono_l : ∀ k,(∀ y0 y1 y2 y3 y4 y5,LeO (spec_l10Map.f k y0 y1 y2 y3 y4 y5) (spec_l10Map.f (k + 1) y0 y1 y2 y3 y4 y5))∧(∀ y0 y1 y2 y3 y4 y5 y6 y7,LeO (spec_l10Map.l0 k y0 y1 y2 y3 y4 y5 y6 y7) (spec_l10Map.l0 (k + 1) y0 y1 y2 y3 y4 y5 y6 y7))∧(∀ y0 y1 y2 y3 y4 y5,LeO (spec_l10Map.l1 k y0 y1 y2 y3 y4 y5) (spec_l10Map.l1 (k + 1) y0 y1 y2 y3 y4 y5))∧(∀ y0 y1 y2 y3 y4 y5 y6 y7 y8,LeO (spec_l10Map.l2 k y0 y1 y2 y3 y4 y5 y6 y7 y8) (spec_l10Map.l2 (k + 1) y0 y1 y2 y3 y4 y5 y6 y7 y8))
 | 0=>⟨fun _ _ _ _ _ _ r h=>by simp [spec_l10Map.f] at h,fun _ _ _ _ _ _ _ _ r h=>by simp [spec_l10Map.l0] at h,fun _ _ _ _ _ _ r h=>by simp [spec_l10Map.l1] at h,fun _ _ _ _ _ _ _ _ _ r h=>by simp [spec_l10Map.l2] at h⟩
 | k + 1=>by
  obtain ⟨aa,ab,ac,ad⟩:=spec_l10Map.mono_l k;refine ⟨?_,?_,?_,?_⟩
  ·intro y0 y1 y2 y3 y4 y5;unfold spec_l10Map.f
   repeat' first
   | (with_reducible exact aa _ _ _ _ _ _)
   | (with_reducible exact ab _ _ _ _ _ _ _ _)
   | (with_reducible exact ac _ _ _ _ _ _)
   | (with_reducible exact ad _ _ _ _ _ _ _ _ _)
   | (with_reducible exact spec_l10HasAtom.mono _ _ _ _ _ _)
   | (with_reducible exact spec_l10May.mono _ _ _ _ _ _)
   | (with_reducible exact spec_l10Vars.mono _ _ _)
   | (with_reducible exact spec_l1Has.mono _ _ _)
   | (with_reducible exact LeO.refl _)
   | (with_reducible exact LeO.none _)
   | (with_reducible refine LeO.ite ?_ ?_)
   | (with_reducible refine LeO.bind ?_ (fun _=>?_))
   | exact aa _ _ _ _ _ _
   | exact ab _ _ _ _ _ _ _ _
   | exact ac _ _ _ _ _ _
   | exact ad _ _ _ _ _ _ _ _ _
   | exact spec_l10HasAtom.mono _ _ _ _ _ _
   | exact spec_l10May.mono _ _ _ _ _ _
   | exact spec_l10Vars.mono _ _ _
   | exact spec_l1Has.mono _ _ _
   | exact LeO.none _
   | refine LeO.ite ?_ ?_
   | refine LeO.bind ?_ (fun _=>?_)
  ·intro y0 y1 y2 y3 y4 y5 y6 y7;unfold spec_l10Map.l0
   repeat' first
   | (with_reducible exact aa _ _ _ _ _ _)
   | (with_reducible exact ab _ _ _ _ _ _ _ _)
   | (with_reducible exact ac _ _ _ _ _ _)
   | (with_reducible exact ad _ _ _ _ _ _ _ _ _)
   | (with_reducible exact spec_l10HasAtom.mono _ _ _ _ _ _)
   | (with_reducible exact spec_l10May.mono _ _ _ _ _ _)
   | (with_reducible exact spec_l10Vars.mono _ _ _)
   | (with_reducible exact spec_l1Has.mono _ _ _)
   | (with_reducible exact LeO.refl _)
   | (with_reducible exact LeO.none _)
   | (with_reducible refine LeO.ite ?_ ?_)
   | (with_reducible refine LeO.bind ?_ (fun _=>?_))
   | exact aa _ _ _ _ _ _
   | exact ab _ _ _ _ _ _ _ _
   | exact ac _ _ _ _ _ _
   | exact ad _ _ _ _ _ _ _ _ _
   | exact spec_l10HasAtom.mono _ _ _ _ _ _
   | exact spec_l10May.mono _ _ _ _ _ _
   | exact spec_l10Vars.mono _ _ _
   | exact spec_l1Has.mono _ _ _
   | exact LeO.none _
   | refine LeO.ite ?_ ?_
   | refine LeO.bind ?_ (fun _=>?_)
  ·intro y0 y1 y2 y3 y4 y5;unfold spec_l10Map.l1
   repeat' first
   | (with_reducible exact aa _ _ _ _ _ _)
   | (with_reducible exact ab _ _ _ _ _ _ _ _)
   | (with_reducible exact ac _ _ _ _ _ _)
   | (with_reducible exact ad _ _ _ _ _ _ _ _ _)
   | (with_reducible exact spec_l10HasAtom.mono _ _ _ _ _ _)
   | (with_reducible exact spec_l10May.mono _ _ _ _ _ _)
   | (with_reducible exact spec_l10Vars.mono _ _ _)
   | (with_reducible exact spec_l1Has.mono _ _ _)
   | (with_reducible exact LeO.refl _)
   | (with_reducible exact LeO.none _)
   | (with_reducible refine LeO.ite ?_ ?_)
   | (with_reducible refine LeO.bind ?_ (fun _=>?_))
   | exact aa _ _ _ _ _ _
   | exact ab _ _ _ _ _ _ _ _
   | exact ac _ _ _ _ _ _
   | exact ad _ _ _ _ _ _ _ _ _
   | exact spec_l10HasAtom.mono _ _ _ _ _ _
   | exact spec_l10May.mono _ _ _ _ _ _
   | exact spec_l10Vars.mono _ _ _
   | exact spec_l1Has.mono _ _ _
   | exact LeO.none _
   | refine LeO.ite ?_ ?_
   | refine LeO.bind ?_ (fun _=>?_)
  ·intro y0 y1 y2 y3 y4 y5 y6 y7 y8;unfold spec_l10Map.l2
   repeat' first
   | (with_reducible exact aa _ _ _ _ _ _)
   | (with_reducible exact ab _ _ _ _ _ _ _ _)
   | (with_reducible exact ac _ _ _ _ _ _)
   | (with_reducible exact ad _ _ _ _ _ _ _ _ _)
   | (with_reducible exact spec_l10HasAtom.mono _ _ _ _ _ _)
   | (with_reducible exact spec_l10May.mono _ _ _ _ _ _)
   | (with_reducible exact spec_l10Vars.mono _ _ _)
   | (with_reducible exact spec_l1Has.mono _ _ _)
   | (with_reducible exact LeO.refl _)
   | (with_reducible exact LeO.none _)
   | (with_reducible refine LeO.ite ?_ ?_)
   | (with_reducible refine LeO.bind ?_ (fun _=>?_))
   | exact aa _ _ _ _ _ _
   | exact ab _ _ _ _ _ _ _ _
   | exact ac _ _ _ _ _ _
   | exact ad _ _ _ _ _ _ _ _ _
   | exact spec_l10HasAtom.mono _ _ _ _ _ _
   | exact spec_l10May.mono _ _ _ _ _ _
   | exact spec_l10Vars.mono _ _ _
   | exact spec_l1Has.mono _ _ _
   | exact LeO.none _
   | refine LeO.ite ?_ ?_
   | refine LeO.bind ?_ (fun _=>?_)
theorem spec_l10Map.mono : ∀ a0 a1 a2 a3 a4 a5 k,LeO (spec_l10Map.f k a0 a1 a2 a3 a4 a5) (spec_l10Map.f (k + 1) a0 a1 a2 a3 a4 a5):=by
 intro a0 a1 a2 a3 a4 a5 k;obtain ⟨aa,ab,ac,ad⟩:=spec_l10Map.mono_l k;exact aa a0 a1 a2 a3 a4 a5
def spec_l10Map.T5 : Bool × List (List Nat × List Nat):=(true,[([],[]),([],[]),([0,1],[0,1]),([2],[2]),([],[]),([4],[4]),([],[]),([5,6],[5,6]),([7],[7]),([3,8],[3,8])])
def spec_l10Map.B5 : List Nat:=[0,0,3,7,0,16,0,112,240,511]
theorem spec_l10Map.tab5 : rtab .any (opsOf Try.f149 5)=spec_l10Map.T5:=by kernel_rfl
theorem spec_l10Map.bits5 : waitsOk spec_l10Map.T5.2 spec_l10Map.B5=true:=by kernel_rfl
def spec_l10Map.T16 : Bool × List (List Nat × List Nat):=(true,[([],[]),([],[]),([],[]),([2],[2]),([],[]),([],[]),([4,5],[4,5]),([],[]),([6,7,6],[6,7]),([0,1,3,8,8],[0,1,3,8]),([9],[9]),([9],[9]),([10,9,0,1,2,3,4,5,6,7,8,9,10,11],[10]),([11,12,0,1,2,3,4,5,6,7,8,9,10,11,12],[11])])
def spec_l10Map.B16 : List Nat:=[0,0,0,4,0,0,48,0,240,511,1023,1023,4095,8191]
theorem spec_l10Map.tab16 : rtab .any (opsOf Try.f149 16)=spec_l10Map.T16:=by kernel_rfl
theorem spec_l10Map.bits16 : waitsOk spec_l10Map.T16.2 spec_l10Map.B16=true:=by kernel_rfl
set_option maxHeartbeats 8000000 in
set_option maxRecDepth 100000 in
theorem spec_l10Map.calls (k:Nat):∀ (aH:Option Addr) (aC:Nat) (ag:List Int) (aD:Option Addr) (aE:Nat) (ah:List (S97)) (aM:Option Addr) (aI:Nat) (ae:List Int) (aN:Option Addr) (aJ:Nat) (af:List (S97)) (a2:Int) (A3:Option Addr) (c3:Nat) (l3:List Int) (r1:List Int) (r2:Bool) (w:World) (hr0_0:Kd.C (Kd.int .i64) w aH ag.length ag) (hc0_0:ag.length≤aC) (hr0_1:Kd.C k97 w aD ah.length ah) (hc0_1:ah.length≤aE) (hr1_0:Kd.C (Kd.int .i64) w aM ae.length ae) (hc1_0:ae.length≤aI) (hr1_1:Kd.C k97 w aN af.length af) (hc1_1:af.length≤aJ) (ga:Kd.C (Kd.int .i64) w A3 l3.length l3) (gb:l3.length≤c3) (h:spec_l10Map.f k ag ah ae af a2 l3=some (r1,r2)),
  Calls Try.prog 149 #[.agg #[.slice aH ag.length aC,.slice aD ah.length aE],.agg #[.slice aM ae.length aI,.slice aN af.length aJ],.int .i64 a2,.slice A3 l3.length c3] w fun e w'=>∃ gA:Value,e=.returned (.tuple #[gA,.bool r2])∧Kd.R (Kd.int .i64) 3 w' w.heap.size (fun _=>True) gA r1∧Below w.heap.size w w':=by
 induction k using Nat.strongRecOn with
 | _ k ih =>
 intro aH aC ag aD aE ah aM aI ae aN aJ af a2 A3 c3 l3 r1 r2 w hr0_0 hc0_0 hr0_1 hc0_1 hr1_0 hc1_0 hr1_1 hc1_1 ga gb h;cases k with
 | zero=>exact absurd h (by simp [spec_l10Map.f])
 | succ k =>
 simp only [spec_l10Map.f] at h;have hs:=Try.underlying32;have ht:=Try.underlying97;have bo:=qK hr0_0;have bt:=qK hc0_0;clear hr0_0 hc0_0;have bu:=qK hr0_1;have bv:=qK hc0_1;clear hr0_1 hc0_1;have bq:=qK hr1_0;have bE:=qK hc1_0;clear hr1_0 hc1_0;have br:=qK hr1_1;have bF:=qK hc1_1;clear hr1_1 hc1_1;have cR:=qK ga;have gB:=qK gb;clear ga gb;have HB:=qK (Below.refl w.heap.size w);have H:(if a2=6 then (spec_l10Map.l0 k l3 ae (ae.length:Int) 0 ag ah ae af) else ((spec_l10Vars.f k ae af).bind fun bs=>((spec_l1Has.f k bs a2).bind fun cM=>(if cM=true then ((spec_l10Vars.f k ag ah).bind fun ap=>(spec_l10Map.l2 k a2 l3 ap (ap.length:Int) 0 ag ah ae af)) else ((some (([]:List Int):List Int)).bind fun bl=>(if bl.length + l3.length < 17592186044416 then ((some (bl ++ l3:List Int)).bind fun ba=>((some (([0]:List Int):List Int)).bind fun aT=>(if ba.length + aT.length < 17592186044416 then ((spec_l10Map.f k ag ah ae af (wrap64 (a2 + 1)) (ba ++ aT)).bind fun aK=>(some (aK.1,aK.2))) else (none)))) else (none)))))))=some (r1,r2):=h;clear h;by_cases c5:a2=6
 ·rw [if_pos c5] at H;have dk:(a2 == 6)=true:=beq_iff_eq.mpr c5;have dl:(a2 != 6)=false:=bne_eq_false_iff_eq.mpr c5;clear c5;have H':=qK H;clear H;go_enter Try.func149,Try.ntmps149
  go_wp2_with (first|((with_reducible refine gate_dst (N:=4) rfl ?_);refine box_event ?hg (N:=4) ?hd (cs:=#[.slice aH ag.length aC,.slice aD ah.length aE]) (t:=32) ?hr ?_;(case hd=>rfl);(case hg=>rfl);(case hr=>(go_simp;try rfl));intro ac hg w6 hbox hb;have an:=qK (qT HB.out hb);have ao:=qK (hbox);have am:=qK ((by rw [hg];exact (qZ HB.out):w.heap.size≤ac));have aq:=am;clear HB;have HB:=an;have aa:=ao;have dO:=am;have aW:=aq;clear an ao am aq;clear hb hbox hg)|((with_reducible refine gate_dst (N:=5) rfl ?_);refine box_event ?hg (N:=5) ?hd (cs:=#[.slice aM ae.length aI,.slice aN af.length aJ]) (t:=32) ?hr ?_;(case hd=>rfl);(case hg=>rfl);(case hr=>(go_simp;try rfl));intro ad hg w7 hbox hb;have an:=qK (qB (g:=ac) (o:=_) aa.out hb);have ao:=qK (qT HB.out hb);have am:=qK (hbox);have aq:=qK ((by rw [hg];exact (qZ HB.out):w.heap.size≤ad));have au:=aq;have aG:=qK ((by rw [hg];exact Nat.ne_of_lt (blk_lt (g:=ac) (o:=_) aa.out):ac ≠ ad));have bG:=qK aG.out.symm;clear aa HB;have aa:=an;have HB:=ao;have ab:=am;have dP:=aq;have aX:=au;have ay:=aG;have az:=bG;clear an ao am aq au aG bG hb hbox hg;have hu:=az.out;have hv:=ay.out;have ct:w7.cell? ⟨ad,0,none⟩=some (.slice aM ae.length aI):=(qC ab.out 0).trans rfl;have cu:w7.cell? ⟨ad,1,none⟩=some (.slice aN af.length aJ):=(qC ab.out 1).trans rfl;have cv:=qF ab.out 0;have cw:=qF ab.out 1))
  go_loopg [24] k (fun kq hw w'=>∃ (aj:Int),hw=.int .i64 aj∧Aside0 (spec_l10Map.l0 kq l3 ae (ae.length:Int) aj ag ah ae af=some (r1,r2))∧Aside0 (kq≤k)∧Aside0 (w'.heap[ac]?=some (.cells #[(.slice aH ag.length aC),(.slice aD ah.length aE)] 32 (0,0)))∧Aside0 (w'.heap[ad]?=some (.cells #[(.slice aM ae.length aI),(.slice aN af.length aJ)] 32 (0,0)))∧Aside0 (Below w.heap.size w w'))
  case atStart=>exact ⟨(0),(by rfl),H',⟨Nat.le_refl _⟩,⟨aa.out⟩,⟨ab.out⟩,⟨HB.out⟩⟩
  case round =>
   clear H';try clear c1
   try clear p2
   try clear c3
   try clear c5
   try clear dk
   try clear dl
   try clear p6
   try clear c8
   try clear ct
   try clear cu
   try clear cv
   try clear cw
   obtain ⟨aj,rfl,HA,cS,aa,ab,HB⟩:=hrel;cases gk with
   | zero=>exact absurd HA.out (by simp [spec_l10Map.l0])
   | succ k1 =>
    have H:=HA.out;clear HA;simp only [spec_l10Map.l0] at H;by_cases c10:aj < (ae.length:Int)
    ·rw [if_pos c10] at H;have cT:decide (aj < (ae.length:Int))=true:=decide_eq_true c10;clear c10;by_cases c11:0≤aj
     ·rw [if_pos c11] at H;have dQ:decide (0≤aj)=true:=decide_eq_true c11;clear c11;by_cases c12:aj < (ae.length:Int)
      ·rw [if_pos c12] at H;have dR:decide (aj < (ae.length:Int))=true:=decide_eq_true c12;clear c12;by_cases c13:0≤(rd ae aj)
       ·rw [if_pos c13] at H;have dS:decide (0≤(rd ae aj))=true:=decide_eq_true c13;clear c13;by_cases c14:(rd ae aj) < (l3.length:Int)
        ·rw [if_pos c14] at H;have dT:decide ((rd ae aj) < (l3.length:Int))=true:=decide_eq_true c14;clear c14;by_cases c15:aj < (ag.length:Int)
         ·rw [if_pos c15] at H;have dU:decide (aj < (ag.length:Int))=true:=decide_eq_true c15;clear c15;by_cases c16:(rd l3 (rd ae aj))=(rd ag aj)
          ·rw [if_pos c16] at H;have cU:((rd l3 (rd ae aj)) == (rd ag aj))=true:=beq_iff_eq.mpr c16;have cV:((rd l3 (rd ae aj)) != (rd ag aj))=false:=bne_eq_false_iff_eq.mpr c16;clear c16;have H':=qK H;clear H;have bV:0≤(aj:Int):=of_decide_eq_true (by assumption);have bW:aj < (ae.length:Int):=of_decide_eq_true (by assumption);obtain ⟨cX,ef,bb⟩:=Kd.at_int bq.out aj bV bW;cases ef
           replace bb:=(HB.out.cell (World.block_lt_of_cell? w _ bb)).trans bb;replace bV:=eq_true bV;replace bW:=eq_true bW;try go_wp2
           (try (rw [drewN_self wr];generalize hq_:World.drewN wr _=wr;have an:Aside0 (wr.heap[ac]?=some (.cells #[.slice aH ag.length aC,.slice aD ah.length aE] 32 (0,0))):=⟨by rw [← hq_];exact aa.out⟩;have ao:Aside0 (wr.heap[ad]?=some (.cells #[.slice (some cX) ae.length aI,.slice aN af.length aJ] 32 (0,0))):=⟨by rw [← hq_];exact ab.out⟩;have am:Aside0 (Below w.heap.size w wr):=⟨by rw [← hq_];exact HB.out⟩;clear aa ab HB hq_;have aa:=an;have ab:=ao;have HB:=am;clear an ao am));have an:=qK (qW aa.out);have ao:=qK (qW ab.out);have am:=qK (qO HB.out);clear aa ab HB;have aa:=an;have ab:=ao;have HB:=am;clear an ao am;have bX:0≤((rd ae aj):Int):=of_decide_eq_true (by assumption);have bY:(rd ae aj) < (l3.length:Int):=of_decide_eq_true (by assumption);obtain ⟨cY,eg,aP⟩:=Kd.at_int cR.out (rd ae aj) bX bY;have bw:=aP;cases eg
           replace aP:=(HB.out.cell (World.block_lt_of_cell? w _ aP)).trans aP;replace bX:=eq_true bX;replace bY:=eq_true bY;have bZ:0≤(aj:Int):=of_decide_eq_true (by assumption);have ca:aj < (ag.length:Int):=of_decide_eq_true (by assumption);obtain ⟨cd,eh,aQ⟩:=Kd.at_int bo.out aj bZ ca;have bx:=aQ;cases eh
           replace aQ:=(HB.out.cell (World.block_lt_of_cell? w _ aQ)).trans aQ;replace bZ:=eq_true bZ;replace ca:=eq_true ca;refine start_ (n:=10) (S:=fun w'=>w'.cell? ⟨ac,0,none⟩=some (.slice (some cd) ag.length aC)∧w'.cell? ⟨ac,1,none⟩=some (.slice aD ah.length aE)∧w'.cell? (cY.add ((rd ae aj)).toNat)=some (.int .i64 (rd l3 (rd ae aj)))∧w'.cell? (cd.add (aj).toNat)=some (.int .i64 (rd ag aj))) (ds:=[]) #[Z,Z,Z,Z,Z,Z,Z,Z,Z,Z] (by kernel_rfl) rfl rfl ⟨(qC aa.out 0).trans rfl,(qC aa.out 1).trans rfl,((HB.out.cell (World.block_lt_of_cell? w _ bw)).trans bw),((HB.out.cell (World.block_lt_of_cell? w _ bx)).trans bx)⟩ (fun hHeld=>?_);refine with_tabW spec_l10Map.tab5 spec_l10Map.bits5 (fun HT_ HW_=>?_);generalize wr.drew=w17 at aa ab HB aP aQ hHeld ⊢
           refine pure_ (i:=0) (N:=some 29) (v:=?_) (a':=?_) #[Y,Z,Z,Z,Z,Z,Z,Z,Z,Z] rfl rfl (any_of HT_.out (by kernel_rfl)) (fun _ _ _ h=>h) (Or.inl ⟨by rfl,?_⟩) ?_ ?_;rotate_left
           ·intro w';go_simp;with_reducible rfl
           rotate_left
           ·simp only [Act.put,sIb,sZ,sS,i64_w,i32_w];rfl
           refine pure_ (i:=1) (N:=some 30) (v:=?_) (a':=?_) #[Y,Y,Z,Z,Z,Z,Z,Z,Z,Z] rfl rfl (any_of HT_.out (by kernel_rfl)) (fun _ _ _ h=>h) (Or.inl ⟨by rfl,?_⟩) ?_ ?_;rotate_left
           ·intro w';go_simp;with_reducible rfl
           rotate_left
           ·simp only [Act.put,sIb,sZ,sS,i64_w,i32_w];rfl
           refine pure_ (i:=2) (N:=some 31) (v:=?_) (a':=?_) #[Y,Y,Y,Z,Z,Z,Z,Z,Z,Z] rfl rfl (any_of HT_.out (by kernel_rfl)) (fun _ _ _ h=>h) (Or.inl ⟨by rfl,?_⟩) ?_ ?_;rotate_left
           ·intro w';go_simp;with_reducible rfl
           rotate_left
           ·simp only [Act.put,sIb,sZ,sS,i64_w,i32_w];rfl
           refine pure_ (i:=4) (N:=some 33) (v:=?_) (a':=?_) #[Y,Y,Y,Z,Y,Z,Z,Z,Z,Z] rfl rfl (any_of HT_.out (by kernel_rfl)) (fun _ _ _ h=>h) (Or.inl ⟨by rfl,?_⟩) ?_ ?_;rotate_left
           ·intro w';go_simp;with_reducible rfl
           rotate_left
           ·simp only [Act.put,sIb,sZ,sS,i64_w,i32_w];rfl
           refine pure_ (i:=6) (N:=some 35) (v:=?_) (a':=?_) #[Y,Y,Y,Z,Y,Z,Y,Z,Z,Z] rfl rfl (any_of HT_.out (by kernel_rfl)) (fun _ _ _ h=>h) (Or.inl ⟨by rfl,?_⟩) ?_ ?_;rotate_left
           ·intro w';go_simp;with_reducible rfl
           rotate_left
           ·simp only [Act.put,sIb,sZ,sS,i64_w,i32_w];rfl
           refine take_ (i:=3) (N:=some 32) (v:=?_) (a':=?_) #[Y,Y,Y,Y,Y,Z,Y,Z,Z,Z] rfl rfl (take_ofW HT_.out HW_.out (by kernel_rfl)) (fun _ _ _ h=>h) (Or.inl ⟨by rfl,?_⟩) hHeld ?_ ?_;rotate_left
           ·rintro w' ⟨s0,s1,s2,s3⟩;go_simp;with_reducible rfl
           rotate_left
           ·simp only [Act.put,sIb,sZ,sS,i64_w,i32_w];rfl
           refine take_ (i:=5) (N:=some 34) (v:=?_) (a':=?_) #[Y,Y,Y,Y,Y,Y,Y,Z,Z,Z] rfl rfl (take_ofW HT_.out HW_.out (by kernel_rfl)) (fun _ _ _ h=>h) (Or.inl ⟨by rfl,?_⟩) hHeld ?_ ?_;rotate_left
           ·rintro w' ⟨s0,s1,s2,s3⟩;go_simp;with_reducible rfl
           rotate_left
           ·simp only [Act.put,sIb,sZ,sS,i64_w,i32_w];rfl
           refine pure_ (i:=7) (N:=some 36) (v:=?_) (a':=?_) #[Y,Y,Y,Y,Y,Y,Y,Y,Z,Z] rfl rfl (any_of HT_.out (by kernel_rfl)) (fun _ _ _ h=>h) (Or.inl ⟨by rfl,?_⟩) ?_ ?_;rotate_left
           ·intro w';go_simp;with_reducible rfl
           rotate_left
           ·simp only [Act.put,sIb,sZ,sS,i64_w,i32_w];rfl
           refine take_ (i:=8) (N:=some 37) (v:=?_) (a':=?_) #[Y,Y,Y,Y,Y,Y,Y,Y,Y,Z] rfl rfl (take_ofW HT_.out HW_.out (by kernel_rfl)) (fun _ _ _ h=>h) (Or.inl ⟨by rfl,?_⟩) hHeld ?_ ?_;rotate_left
           ·rintro w' ⟨s0,s1,s2,s3⟩;go_simp;with_reducible rfl
           rotate_left
           ·simp only [Act.put,sIb,sZ,sS,i64_w,i32_w];rfl
           refine pure_ (i:=9) (N:=some 38) (v:=?_) (a':=?_) #[Y,Y,Y,Y,Y,Y,Y,Y,Y,Y] rfl rfl (any_of HT_.out (by kernel_rfl)) (fun _ _ _ h=>h) (Or.inl ⟨by rfl,?_⟩) ?_ ?_;rotate_left
           ·intro w';go_simp;with_reducible rfl
           rotate_left
           ·simp only [Act.put,sIb,sZ,sS,i64_w,i32_w];rfl
           refine done_ (done_of HT_.out (by kernel_rfl)) ?_;try go_wp2
           go_roundg k1
           case measure=>have:=cS.out;omega
           case rel=>exact ⟨(wrap64 (aj + 1)),(by rfl),H',⟨by have:=cS.out;omega⟩,⟨aa.out⟩,⟨ab.out⟩,⟨HB.out⟩⟩
          ·rw [if_neg c16] at H;have cU:((rd l3 (rd ae aj)) == (rd ag aj))=false:=beq_eq_false_iff_ne.mpr c16;have cV:((rd l3 (rd ae aj)) != (rd ag aj))=true:=bne_iff_ne.mpr c16;simp only [Option.some.injEq,Prod.mk.injEq] at H;obtain ⟨rfl,rfl⟩:=H;have bV:0≤(aj:Int):=of_decide_eq_true (by assumption);have bW:aj < (ae.length:Int):=of_decide_eq_true (by assumption);obtain ⟨cX,ef,bb⟩:=Kd.at_int bq.out aj bV bW;cases ef
           replace bb:=(HB.out.cell (World.block_lt_of_cell? w _ bb)).trans bb;replace bV:=eq_true bV;replace bW:=eq_true bW;try go_wp2
           (try (rw [drewN_self wr];generalize hq_:World.drewN wr _=wr;have an:Aside0 (wr.heap[ac]?=some (.cells #[.slice aH ag.length aC,.slice aD ah.length aE] 32 (0,0))):=⟨by rw [← hq_];exact aa.out⟩;have ao:Aside0 (wr.heap[ad]?=some (.cells #[.slice (some cX) ae.length aI,.slice aN af.length aJ] 32 (0,0))):=⟨by rw [← hq_];exact ab.out⟩;have am:Aside0 (Below w.heap.size w wr):=⟨by rw [← hq_];exact HB.out⟩;clear aa ab HB hq_;have aa:=an;have ab:=ao;have HB:=am;clear an ao am));have an:=qK (qW aa.out);have ao:=qK (qW ab.out);have am:=qK (qO HB.out);clear aa ab HB;have aa:=an;have ab:=ao;have HB:=am;clear an ao am;have bX:0≤((rd ae aj):Int):=of_decide_eq_true (by assumption);have bY:(rd ae aj) < (l3.length:Int):=of_decide_eq_true (by assumption);obtain ⟨cY,eg,aP⟩:=Kd.at_int cR.out (rd ae aj) bX bY;have bw:=aP;cases eg
           replace aP:=(HB.out.cell (World.block_lt_of_cell? w _ aP)).trans aP;replace bX:=eq_true bX;replace bY:=eq_true bY;have bZ:0≤(aj:Int):=of_decide_eq_true (by assumption);have ca:aj < (ag.length:Int):=of_decide_eq_true (by assumption);obtain ⟨cd,eh,aQ⟩:=Kd.at_int bo.out aj bZ ca;have bx:=aQ;cases eh
           replace aQ:=(HB.out.cell (World.block_lt_of_cell? w _ aQ)).trans aQ;replace bZ:=eq_true bZ;replace ca:=eq_true ca;refine start_ (n:=10) (S:=fun w'=>w'.cell? ⟨ac,0,none⟩=some (.slice (some cd) ag.length aC)∧w'.cell? ⟨ac,1,none⟩=some (.slice aD ah.length aE)∧w'.cell? (cY.add ((rd ae aj)).toNat)=some (.int .i64 (rd l3 (rd ae aj)))∧w'.cell? (cd.add (aj).toNat)=some (.int .i64 (rd ag aj))) (ds:=[]) #[Z,Z,Z,Z,Z,Z,Z,Z,Z,Z] (by kernel_rfl) rfl rfl ⟨(qC aa.out 0).trans rfl,(qC aa.out 1).trans rfl,((HB.out.cell (World.block_lt_of_cell? w _ bw)).trans bw),((HB.out.cell (World.block_lt_of_cell? w _ bx)).trans bx)⟩ (fun hHeld=>?_);refine with_tabW spec_l10Map.tab5 spec_l10Map.bits5 (fun HT_ HW_=>?_);generalize wr.drew=w18 at aa ab HB aP aQ hHeld ⊢
           refine pure_ (i:=0) (N:=some 29) (v:=?_) (a':=?_) #[Y,Z,Z,Z,Z,Z,Z,Z,Z,Z] rfl rfl (any_of HT_.out (by kernel_rfl)) (fun _ _ _ h=>h) (Or.inl ⟨by rfl,?_⟩) ?_ ?_;rotate_left
           ·intro w';go_simp;with_reducible rfl
           rotate_left
           ·simp only [Act.put,sIb,sZ,sS,i64_w,i32_w];rfl
           refine pure_ (i:=1) (N:=some 30) (v:=?_) (a':=?_) #[Y,Y,Z,Z,Z,Z,Z,Z,Z,Z] rfl rfl (any_of HT_.out (by kernel_rfl)) (fun _ _ _ h=>h) (Or.inl ⟨by rfl,?_⟩) ?_ ?_;rotate_left
           ·intro w';go_simp;with_reducible rfl
           rotate_left
           ·simp only [Act.put,sIb,sZ,sS,i64_w,i32_w];rfl
           refine pure_ (i:=2) (N:=some 31) (v:=?_) (a':=?_) #[Y,Y,Y,Z,Z,Z,Z,Z,Z,Z] rfl rfl (any_of HT_.out (by kernel_rfl)) (fun _ _ _ h=>h) (Or.inl ⟨by rfl,?_⟩) ?_ ?_;rotate_left
           ·intro w';go_simp;with_reducible rfl
           rotate_left
           ·simp only [Act.put,sIb,sZ,sS,i64_w,i32_w];rfl
           refine pure_ (i:=4) (N:=some 33) (v:=?_) (a':=?_) #[Y,Y,Y,Z,Y,Z,Z,Z,Z,Z] rfl rfl (any_of HT_.out (by kernel_rfl)) (fun _ _ _ h=>h) (Or.inl ⟨by rfl,?_⟩) ?_ ?_;rotate_left
           ·intro w';go_simp;with_reducible rfl
           rotate_left
           ·simp only [Act.put,sIb,sZ,sS,i64_w,i32_w];rfl
           refine pure_ (i:=6) (N:=some 35) (v:=?_) (a':=?_) #[Y,Y,Y,Z,Y,Z,Y,Z,Z,Z] rfl rfl (any_of HT_.out (by kernel_rfl)) (fun _ _ _ h=>h) (Or.inl ⟨by rfl,?_⟩) ?_ ?_;rotate_left
           ·intro w';go_simp;with_reducible rfl
           rotate_left
           ·simp only [Act.put,sIb,sZ,sS,i64_w,i32_w];rfl
           refine take_ (i:=3) (N:=some 32) (v:=?_) (a':=?_) #[Y,Y,Y,Y,Y,Z,Y,Z,Z,Z] rfl rfl (take_ofW HT_.out HW_.out (by kernel_rfl)) (fun _ _ _ h=>h) (Or.inl ⟨by rfl,?_⟩) hHeld ?_ ?_;rotate_left
           ·rintro w' ⟨s0,s1,s2,s3⟩;go_simp;with_reducible rfl
           rotate_left
           ·simp only [Act.put,sIb,sZ,sS,i64_w,i32_w];rfl
           refine take_ (i:=5) (N:=some 34) (v:=?_) (a':=?_) #[Y,Y,Y,Y,Y,Y,Y,Z,Z,Z] rfl rfl (take_ofW HT_.out HW_.out (by kernel_rfl)) (fun _ _ _ h=>h) (Or.inl ⟨by rfl,?_⟩) hHeld ?_ ?_;rotate_left
           ·rintro w' ⟨s0,s1,s2,s3⟩;go_simp;with_reducible rfl
           rotate_left
           ·simp only [Act.put,sIb,sZ,sS,i64_w,i32_w];rfl
           refine pure_ (i:=7) (N:=some 36) (v:=?_) (a':=?_) #[Y,Y,Y,Y,Y,Y,Y,Y,Z,Z] rfl rfl (any_of HT_.out (by kernel_rfl)) (fun _ _ _ h=>h) (Or.inl ⟨by rfl,?_⟩) ?_ ?_;rotate_left
           ·intro w';go_simp;with_reducible rfl
           rotate_left
           ·simp only [Act.put,sIb,sZ,sS,i64_w,i32_w];rfl
           refine take_ (i:=8) (N:=some 37) (v:=?_) (a':=?_) #[Y,Y,Y,Y,Y,Y,Y,Y,Y,Z] rfl rfl (take_ofW HT_.out HW_.out (by kernel_rfl)) (fun _ _ _ h=>h) (Or.inl ⟨by rfl,?_⟩) hHeld ?_ ?_;rotate_left
           ·rintro w' ⟨s0,s1,s2,s3⟩;go_simp;with_reducible rfl
           rotate_left
           ·simp only [Act.put,sIb,sZ,sS,i64_w,i32_w];rfl
           refine pure_ (i:=9) (N:=some 38) (v:=?_) (a':=?_) #[Y,Y,Y,Y,Y,Y,Y,Y,Y,Y] rfl rfl (any_of HT_.out (by kernel_rfl)) (fun _ _ _ h=>h) (Or.inl ⟨by rfl,?_⟩) ?_ ?_;rotate_left
           ·intro w';go_simp;with_reducible rfl
           rotate_left
           ·simp only [Act.put,sIb,sZ,sS,i64_w,i32_w];rfl
           refine done_ (done_of HT_.out (by kernel_rfl)) ?_;try go_wp2
           go_ret2
           exact ⟨_,by rfl,by first|exact Kd.R_nil _ _ _ _ _|exact Kd.N_nil _ _ _ _ _|exact Kd.V_nil _ _ _ _ _|exact Kd.Q_nil _ _ _ _ _|exact Kd.S_nil _ _ _ _ _,HB.out⟩
         ·rw [if_neg c15] at H;exact absurd H (by simp)
        ·rw [if_neg c14] at H;exact absurd H (by simp)
       ·rw [if_neg c13] at H;exact absurd H (by simp)
      ·rw [if_neg c12] at H;exact absurd H (by simp)
     ·rw [if_neg c11] at H;exact absurd H (by simp)
    ·rw [if_neg c10] at H;have cT:decide (aj < (ae.length:Int))=false:=decide_eq_false c10;clear c10;have H':=qK H;clear H;have gC:=az.out;have gD:=ay.out;have cC:wr.cell? ⟨ad,0,none⟩=some (.slice aM ae.length aI):=(qC ab.out 0).trans rfl;have cD:wr.cell? ⟨ad,1,none⟩=some (.slice aN af.length aJ):=(qC ab.out 1).trans rfl;have cE:=qF ab.out 0;have cF:=qF ab.out 1;go_wp2
     go_loopg [43] k1 (fun kq hx w'=>∃ (av:Int),hx=.int .i64 av∧Aside0 (spec_l10Map.l1 kq l3 af (af.length:Int) av ag ah=some (r1,r2))∧Aside0 (kq≤k1)∧Aside0 (w'.heap[ac]?=some (.cells #[(.slice aH ag.length aC),(.slice aD ah.length aE)] 32 (0,0)))∧Aside0 (w'.heap[ad]?=some (.cells #[(.slice aM ae.length aI),(.slice aN af.length aJ)] 32 (0,0)))∧Aside0 (Below w.heap.size w w'))
     case atStart=>exact ⟨(0),(by rfl),H',⟨Nat.le_refl _⟩,⟨aa.out⟩,⟨ab.out⟩,⟨HB.out⟩⟩
     case round =>
      clear H';try clear c1
      try clear p2
      try clear c3
      try clear p3
      try clear q3
      try clear hx3
      try clear c5
      try clear dk
      try clear dl
      try clear p6
      try clear c8
      try clear c10
      try clear cT
      try clear c11
      try clear dQ
      try clear c12
      try clear dR
      try clear c13
      try clear dS
      try clear c14
      try clear dT
      try clear c15
      try clear dU
      try clear c16
      try clear cU
      try clear cV
      try clear c19
      try clear cC
      try clear cD
      try clear ct
      try clear cu
      try clear cE
      try clear cF
      try clear cv
      try clear cw
      try clear bb
      try clear aP
      try clear aQ
      try clear p2
      try clear bV
      try clear bX
      try clear bZ
      try clear p6
      try clear bW
      try clear bY
      try clear ca
      obtain ⟨av,rfl,HA,gE,aa,ab,HB⟩:=hrel;cases gk with
      | zero=>exact absurd HA.out (by simp [spec_l10Map.l1])
      | succ k2 =>
       have H:=HA.out;clear HA;simp only [spec_l10Map.l1] at H;by_cases c21:av < (af.length:Int)
       ·rw [if_pos c21] at H;have dV:decide (av < (af.length:Int))=true:=decide_eq_true c21;clear c21;by_cases c22:0≤av
        ·rw [if_pos c22] at H;have em:decide (0≤av)=true:=decide_eq_true c22;clear c22;by_cases c23:av < (af.length:Int)
         ·rw [if_pos c23] at H;have en:decide (av < (af.length:Int))=true:=decide_eq_true c23;clear c23;replace H:=Option.bind_eq_some_iff.mp H;obtain ⟨eo,ep,H⟩:=H;replace H:(if eo=true then (spec_l10Map.l1 k2 l3 af (af.length:Int) (wrap64 (av + 1)) ag ah) else (some (([]:List Int),false)))=some (r1,r2):=H;have gF:=qK ep;clear ep;by_cases c25:eo=true
          ·subst c25;have H1:(spec_l10Map.l1 k2 l3 af (af.length:Int) (wrap64 (av + 1)) ag ah)=some (r1,r2):=by rw [if_pos rfl] at H;exact H
           clear H;have H:=H1;clear H1;have H':=qK H;clear H;have ce:0≤(av:Int):=of_decide_eq_true (by assumption);have cf:av < (af.length:Int):=of_decide_eq_true (by assumption);obtain ⟨cZ,bI,bJ,ei,bf,bg,bz,bA⟩:=at_T97 br.out av ce cf;cases ei
           replace bf:=(HB.out.cell (World.block_lt_of_cell? w _ bf)).trans bf;replace bg:=(HB.out.cell (World.block_lt_of_cell? w _ bg)).trans bg;have cb:=qK bA;have cc:=qK bz;clear bA bz;replace ce:=eq_true ce;replace cf:=eq_true cf;go_wp2_with (first|((with_reducible refine gate_dst (N:=13) rfl ?_);refine box_event ?hg (N:=13) ?hd (cs:=#[.int .i64 0,.slice none 0 0]) (t:=97) ?hr ?_;(case hd=>rfl);(case hg=>rfl);(case hr=>(go_simp;try rfl));intro bj hg fo hbox hb;have an:=qK (qB (g:=ac) (o:=_) aa.out hb);have ao:=qK (qB (g:=ad) (o:=_) ab.out hb);have am:=qK (qT HB.out hb);have aq:=qK (hbox);have au:=qK ((by rw [hg];exact (qZ HB.out):w.heap.size≤bj));have aG:=au;have bG:=qK ((by rw [hg];exact Nat.ne_of_lt (blk_lt (g:=ac) (o:=_) aa.out):ac ≠ bj));have eq:=qK bG.out.symm;have ej:=qK ((by rw [hg];exact Nat.ne_of_lt (blk_lt (g:=ad) (o:=_) ab.out):ad ≠ bj));have er:=qK ej.out.symm;clear aa ab HB;have aa:=an;have ab:=ao;have HB:=am;have bc:=aq;have es:=au;have bp:=aG;have aU:=bG;have bB:=eq;have aV:=ej;have bC:=er;clear an ao am aq au aG bG eq ej er hb hbox hg;have gG:=bB.out;have gH:=aU.out;have gI:=bC.out;have gJ:=aV.out;have dm:fo.cell? ⟨bj,0,none⟩=some (.int .i64 0):=(qC bc.out 0).trans rfl;have dn:fo.cell? ⟨bj,1,none⟩=some (.slice none 0 0):=(qC bc.out 1).trans rfl;have dp:=qF bc.out 0;have dq:=qF bc.out 1;have gK:=ay.out;have gL:=az.out;have dr:fo.cell? ⟨ac,0,none⟩=some (.slice aH ag.length aC):=(qC aa.out 0).trans rfl;have dt:fo.cell? ⟨ac,1,none⟩=some (.slice aD ah.length aE):=(qC aa.out 1).trans rfl;have du:=qF aa.out 0;have dv:=qF aa.out 1)|((with_reducible refine gate_callee (f:=183) rfl ?_);refine goesL_ (some 50) rfl rfl Try.func183 (by kernel_rfl) rfl #[.agg #[.slice aH ag.length aC,.slice aD ah.length aE],.agg #[.int .i64 ((rd_T97 af av).f0),.slice bI ((rd_T97 af av).f1).length bJ],.slice A3 l3.length c3] rfl (by (try simp only [mT,mC,mN]);first|done|rfl|(simp only [lD,lT];rfl)) ?_;(with_reducible refine (spec_l10HasAtom.calls k2 _ _ ag _ _ ah ((rd_T97 af av).f0) _ _ ((rd_T97 af av).f1) _ _ l3 true _ ?side1 ?side2 ?side3 ?side4 ?side5 ?side6 ?side7 ?side8 gF.out).mono ?_);(case side1=>exact cB bo.out (by repeat (with_reducible first|exact HB.out|apply qA|apply qD|apply qO|refine qS ?_ aW.out|refine qS ?_ aX.out|refine qS ?_ bp.out)));(case side2=>exact bt.out);(case side3=>exact cB bu.out (by repeat (with_reducible first|exact HB.out|apply qA|apply qD|apply qO|refine qS ?_ aW.out|refine qS ?_ aX.out|refine qS ?_ bp.out)));(case side4=>exact bv.out);(case side5=>exact cB cb.out (by repeat (with_reducible first|exact HB.out|apply qA|apply qD|apply qO|refine qS ?_ aW.out|refine qS ?_ aX.out|refine qS ?_ bp.out)));(case side6=>exact cc.out);(case side7=>exact cB cR.out (by repeat (with_reducible first|exact HB.out|apply qA|apply qD|apply qO|refine qS ?_ aW.out|refine qS ?_ aX.out|refine qS ?_ bp.out)));(case side8=>exact gB.out);rintro e hJ ⟨rfl,hb⟩;refine ⟨_,rfl,?_⟩;have an:=qK (qB (g:=ac) (o:=.cells #[.slice aH ag.length aC,.slice aD ah.length aE] 32 (0,0)) (by (with_reducible repeat (first|refine qN ?_ _|refine qW ?_|refine qL ?_ _));refine qR ?_ aU.out _;(with_reducible repeat (first|refine qN ?_ _|refine qW ?_|refine qL ?_ _));refine qR ?_ aU.out _;(with_reducible repeat (first|refine qN ?_ _|refine qW ?_|refine qL ?_ _));exact aa.out) hb);have ao:=qK (qB (g:=ad) (o:=.cells #[.slice aM ae.length aI,.slice (some cZ) af.length aJ] 32 (0,0)) (by (with_reducible repeat (first|refine qN ?_ _|refine qW ?_|refine qL ?_ _));refine qR ?_ aV.out _;(with_reducible repeat (first|refine qN ?_ _|refine qW ?_|refine qL ?_ _));refine qR ?_ aV.out _;(with_reducible repeat (first|refine qN ?_ _|refine qW ?_|refine qL ?_ _));exact ab.out) hb);have am:=qK (qB (g:=bj) (o:=.cells #[.int .i64 ((rd_T97 af av).f0),.slice bI ((rd_T97 af av).f1).length bJ] 97 (0,0)) (by (with_reducible repeat (first|refine qN ?_ _|refine qW ?_|refine qL ?_ _));refine qP (cs:=#[.int .i64 ((rd_T97 af av).f0),.slice none 0 0]) ?_ 1 _ rfl;(with_reducible repeat (first|refine qN ?_ _|refine qW ?_|refine qL ?_ _));refine qP (cs:=#[.int .i64 0,.slice none 0 0]) ?_ 0 _ rfl;(with_reducible repeat (first|refine qN ?_ _|refine qW ?_|refine qL ?_ _));exact bc.out) hb);have aq:=qK (qT (by repeat (with_reducible first|exact HB.out|apply qA|apply qD|apply qO|refine qS ?_ aW.out|refine qS ?_ aX.out|refine qS ?_ bp.out)) hb);clear aa ab bc HB;have aa:=an;have ab:=ao;have bc:=am;have HB:=aq;clear an ao am aq;(try clear hb)))
           go_roundg k2
           case measure=>have:=cS.out;have:=gE.out;omega
           case rel=>exact ⟨(wrap64 (av + 1)),(by rfl),H',⟨by have:=cS.out;have:=gE.out;omega⟩,⟨aa.out⟩,⟨ab.out⟩,⟨HB.out⟩⟩
          ·replace c25:=Bool.eq_false_iff.mpr c25;subst c25;have H1:(some (([]:List Int),false))=some (r1,r2):=by rw [if_neg (show ¬ (false=true) by decide)] at H;exact H
           clear H;have H:=H1;clear H1;simp only [Option.some.injEq,Prod.mk.injEq] at H;obtain ⟨rfl,rfl⟩:=H;have ce:0≤(av:Int):=of_decide_eq_true (by assumption);have cf:av < (af.length:Int):=of_decide_eq_true (by assumption);obtain ⟨cZ,bI,bJ,ei,bf,bg,bz,bA⟩:=at_T97 br.out av ce cf;cases ei
           replace bf:=(HB.out.cell (World.block_lt_of_cell? w _ bf)).trans bf;replace bg:=(HB.out.cell (World.block_lt_of_cell? w _ bg)).trans bg;have cb:=qK bA;have cc:=qK bz;clear bA bz;replace ce:=eq_true ce;replace cf:=eq_true cf;go_wp2_with (first|((with_reducible refine gate_dst (N:=13) rfl ?_);refine box_event ?hg (N:=13) ?hd (cs:=#[.int .i64 0,.slice none 0 0]) (t:=97) ?hr ?_;(case hd=>rfl);(case hg=>rfl);(case hr=>(go_simp;try rfl));intro bj hg fp hbox hb;have an:=qK (qB (g:=ac) (o:=_) aa.out hb);have ao:=qK (qB (g:=ad) (o:=_) ab.out hb);have am:=qK (qT HB.out hb);have aq:=qK (hbox);have au:=qK ((by rw [hg];exact (qZ HB.out):w.heap.size≤bj));have aG:=au;have bG:=qK ((by rw [hg];exact Nat.ne_of_lt (blk_lt (g:=ac) (o:=_) aa.out):ac ≠ bj));have eq:=qK bG.out.symm;have ej:=qK ((by rw [hg];exact Nat.ne_of_lt (blk_lt (g:=ad) (o:=_) ab.out):ad ≠ bj));have er:=qK ej.out.symm;clear aa ab HB;have aa:=an;have ab:=ao;have HB:=am;have bc:=aq;have es:=au;have bp:=aG;have aU:=bG;have bB:=eq;have aV:=ej;have bC:=er;clear an ao am aq au aG bG eq ej er hb hbox hg;have gM:=bB.out;have gN:=aU.out;have gO:=bC.out;have gP:=aV.out;have dw:fp.cell? ⟨bj,0,none⟩=some (.int .i64 0):=(qC bc.out 0).trans rfl;have dx:fp.cell? ⟨bj,1,none⟩=some (.slice none 0 0):=(qC bc.out 1).trans rfl;have dy:=qF bc.out 0;have dz:=qF bc.out 1;have gQ:=ay.out;have gR:=az.out;have dA:fp.cell? ⟨ac,0,none⟩=some (.slice aH ag.length aC):=(qC aa.out 0).trans rfl;have dB:fp.cell? ⟨ac,1,none⟩=some (.slice aD ah.length aE):=(qC aa.out 1).trans rfl;have dC:=qF aa.out 0;have dD:=qF aa.out 1)|((with_reducible refine gate_callee (f:=183) rfl ?_);refine goesL_ (some 50) rfl rfl Try.func183 (by kernel_rfl) rfl #[.agg #[.slice aH ag.length aC,.slice aD ah.length aE],.agg #[.int .i64 ((rd_T97 af av).f0),.slice bI ((rd_T97 af av).f1).length bJ],.slice A3 l3.length c3] rfl (by (try simp only [mT,mC,mN]);first|done|rfl|(simp only [lD,lT];rfl)) ?_;(with_reducible refine (spec_l10HasAtom.calls k2 _ _ ag _ _ ah ((rd_T97 af av).f0) _ _ ((rd_T97 af av).f1) _ _ l3 false _ ?side1 ?side2 ?side3 ?side4 ?side5 ?side6 ?side7 ?side8 gF.out).mono ?_);(case side1=>exact cB bo.out (by repeat (with_reducible first|exact HB.out|apply qA|apply qD|apply qO|refine qS ?_ aW.out|refine qS ?_ aX.out|refine qS ?_ bp.out)));(case side2=>exact bt.out);(case side3=>exact cB bu.out (by repeat (with_reducible first|exact HB.out|apply qA|apply qD|apply qO|refine qS ?_ aW.out|refine qS ?_ aX.out|refine qS ?_ bp.out)));(case side4=>exact bv.out);(case side5=>exact cB cb.out (by repeat (with_reducible first|exact HB.out|apply qA|apply qD|apply qO|refine qS ?_ aW.out|refine qS ?_ aX.out|refine qS ?_ bp.out)));(case side6=>exact cc.out);(case side7=>exact cB cR.out (by repeat (with_reducible first|exact HB.out|apply qA|apply qD|apply qO|refine qS ?_ aW.out|refine qS ?_ aX.out|refine qS ?_ bp.out)));(case side8=>exact gB.out);rintro e hL ⟨rfl,hb⟩;refine ⟨_,rfl,?_⟩;have an:=qK (qB (g:=ac) (o:=.cells #[.slice aH ag.length aC,.slice aD ah.length aE] 32 (0,0)) (by (with_reducible repeat (first|refine qN ?_ _|refine qW ?_|refine qL ?_ _));refine qR ?_ aU.out _;(with_reducible repeat (first|refine qN ?_ _|refine qW ?_|refine qL ?_ _));refine qR ?_ aU.out _;(with_reducible repeat (first|refine qN ?_ _|refine qW ?_|refine qL ?_ _));exact aa.out) hb);have ao:=qK (qB (g:=ad) (o:=.cells #[.slice aM ae.length aI,.slice (some cZ) af.length aJ] 32 (0,0)) (by (with_reducible repeat (first|refine qN ?_ _|refine qW ?_|refine qL ?_ _));refine qR ?_ aV.out _;(with_reducible repeat (first|refine qN ?_ _|refine qW ?_|refine qL ?_ _));refine qR ?_ aV.out _;(with_reducible repeat (first|refine qN ?_ _|refine qW ?_|refine qL ?_ _));exact ab.out) hb);have am:=qK (qB (g:=bj) (o:=.cells #[.int .i64 ((rd_T97 af av).f0),.slice bI ((rd_T97 af av).f1).length bJ] 97 (0,0)) (by (with_reducible repeat (first|refine qN ?_ _|refine qW ?_|refine qL ?_ _));refine qP (cs:=#[.int .i64 ((rd_T97 af av).f0),.slice none 0 0]) ?_ 1 _ rfl;(with_reducible repeat (first|refine qN ?_ _|refine qW ?_|refine qL ?_ _));refine qP (cs:=#[.int .i64 0,.slice none 0 0]) ?_ 0 _ rfl;(with_reducible repeat (first|refine qN ?_ _|refine qW ?_|refine qL ?_ _));exact bc.out) hb);have aq:=qK (qT (by repeat (with_reducible first|exact HB.out|apply qA|apply qD|apply qO|refine qS ?_ aW.out|refine qS ?_ aX.out|refine qS ?_ bp.out)) hb);clear aa ab bc HB;have aa:=an;have ab:=ao;have bc:=am;have HB:=aq;clear an ao am aq;(try clear hb)))
           go_ret2
           exact ⟨_,by rfl,by first|exact Kd.R_nil _ _ _ _ _|exact Kd.N_nil _ _ _ _ _|exact Kd.V_nil _ _ _ _ _|exact Kd.Q_nil _ _ _ _ _|exact Kd.S_nil _ _ _ _ _,HB.out⟩
         ·rw [if_neg c23] at H;exact absurd H (by simp)
        ·rw [if_neg c22] at H;exact absurd H (by simp)
       ·rw [if_neg c21] at H;have dV:decide (av < (af.length:Int))=false:=decide_eq_false c21;clear c21;obtain ⟨da,cg⟩:∃ y_:List Int,y_=(([]:List Int)):=⟨_,rfl⟩;replace H:(if da.length + l3.length < 17592186044416 then (some ((da ++ l3),true)) else (none))=some (r1,r2):=by first|(rw [cg];with_reducible exact H)|(have bm:=(Option.bind_some _ _).symm.trans H;rw [cg];with_reducible exact bm)|(have bm:=(Option.bind_some _ _).symm.trans H;with_reducible exact bm)|with_reducible exact H|(rw [cg];exact H)|exact H
        have dW:=qK cg;clear cg;by_cases c40:da.length + l3.length < 17592186044416
        ·rw [if_pos c40] at H;have et:=qK c40;clear c40;obtain ⟨gc,ch⟩:∃ y_:List Int,y_=(da ++ l3):=⟨_,rfl⟩;replace H:(some (gc,true))=some (r1,r2):=by first|(rw [ch];with_reducible exact H)|(have bm:=(Option.bind_some _ _).symm.trans H;rw [ch];with_reducible exact bm)|(have bm:=(Option.bind_some _ _).symm.trans H;with_reducible exact bm)|with_reducible exact H|(rw [ch];exact H)|exact H
         have eu:=qK ch;clear ch;simp only [Option.some.injEq,Prod.mk.injEq] at H;obtain ⟨rfl,rfl⟩:=H;go_wp2_with (first|((with_reducible refine gate_dst (N:=53) rfl ?_);refine Kd.R_lit (Kd.int .i64) _ 3 ?hg (N:=53) ?hd (xs:=([]:List Int)) (inner:=[]) (ok:=fun _=>True) (okp:=fun _=>True) ?hr ?hp (fun _ hk=>hk) trivial (Below.refl _ _) (Nat.le_refl _) (by simp) ?_;(case hd=>rfl);(case hg=>rfl);(case hr=>(go_simp;try rfl));(case hp=>exact (Reps.none _ _));intro gd hM db hb hg_ hnew_;clear hg_ hnew_;(first|rw [← dW.out] at db|(simp only [Int.reduceToNat] at db;rw [← dW.out] at db));have an:=qK (Kd.R_lower db (qZ HB.out));have ao:=qK (qB (g:=ac) (o:=_) aa.out hb);have am:=qK (qB (g:=ad) (o:=_) ab.out hb);have aq:=qK (qT HB.out hb);clear aa ab HB;have cG:=an;have aa:=ao;have ab:=am;have HB:=aq;clear an ao am aq;clear hb db)|((with_reducible refine gate_builtin (b:=.append) (xs:=#[.tmp 53,.tmp 54]) rfl ?_);at_builtin;refine Kd.R_append_rows (Kd.int .i64) (w0:=w) w.heap.size rfl (.tmp 53) (.tmp 54) 22 3 (.int .i64 0) 8 rfl Try.underlying22 info3 rfl (by decide) (by omega) gd da l3 _ _ _ (fun _=>True) (fun _=>False) rfl rfl ?aO ?aR (fun _ _ h=>h) (fun _ h=>h.elim) ?aF ?aB ?aS ?aL ?_;(case aR=>repeat (first|exact (cB cR.out HB.out)|(with_reducible first|refine cL ?_ _|refine cN ?_ _|refine cW ?_)));(case aB=>exact HB.out);(case aF=>exact (fun _ _=>trivial));(case aO=>exact cG.out);(case aS=>exact (qZ HB.out));(case aL=>have:=et.out;omega);intro hy hN ho hb hg hat;rw [← eu.out] at ho;have an:=qK (blk_grown (g:=ac) (o:=_) aa.out hg (Kd.R_ne cG.out aa.out (by decide)));have ao:=qK (blk_grown (g:=ad) (o:=_) ab.out hg (Kd.R_ne cG.out ab.out (by decide)));have am:=qK (hb);have aq:=qK (ho);clear aa ab HB cG;have aa:=an;have ab:=ao;have HB:=am;have ev:=aq;clear an ao am aq;clear ho hb hg hat))
         go_ret2
         exact ⟨_,by rfl,ev.out,HB.out⟩
        ·rw [if_neg c40] at H;exact absurd H (by simp)
 ·rw [if_neg c5] at H;have dk:(a2 == 6)=false:=beq_eq_false_iff_ne.mpr c5;have dl:(a2 != 6)=true:=bne_iff_ne.mpr c5;replace H:=Option.bind_eq_some_iff.mp H;obtain ⟨bs,ew,H⟩:=H;replace H:((spec_l1Has.f k bs a2).bind fun cM=>(if cM=true then ((spec_l10Vars.f k ag ah).bind fun ap=>(spec_l10Map.l2 k a2 l3 ap (ap.length:Int) 0 ag ah ae af)) else ((some (([]:List Int):List Int)).bind fun bl=>(if bl.length + l3.length < 17592186044416 then ((some (bl ++ l3:List Int)).bind fun ba=>((some (([0]:List Int):List Int)).bind fun aT=>(if ba.length + aT.length < 17592186044416 then ((spec_l10Map.f k ag ah ae af (wrap64 (a2 + 1)) (ba ++ aT)).bind fun aK=>(some (aK.1,aK.2))) else (none)))) else (none)))))=some (r1,r2):=H;have gS:=qK ew;clear ew;replace H:=Option.bind_eq_some_iff.mp H;obtain ⟨cM,ex,H⟩:=H;replace H:(if cM=true then ((spec_l10Vars.f k ag ah).bind fun ap=>(spec_l10Map.l2 k a2 l3 ap (ap.length:Int) 0 ag ah ae af)) else ((some (([]:List Int):List Int)).bind fun bl=>(if bl.length + l3.length < 17592186044416 then ((some (bl ++ l3:List Int)).bind fun ba=>((some (([0]:List Int):List Int)).bind fun aT=>(if ba.length + aT.length < 17592186044416 then ((spec_l10Map.f k ag ah ae af (wrap64 (a2 + 1)) (ba ++ aT)).bind fun aK=>(some (aK.1,aK.2))) else (none)))) else (none))))=some (r1,r2):=H;have gT:=qK ex;clear ex;by_cases c46:cM=true
  ·subst c46;have H1:((spec_l10Vars.f k ag ah).bind fun ap=>(spec_l10Map.l2 k a2 l3 ap (ap.length:Int) 0 ag ah ae af))=some (r1,r2):=by rw [if_pos rfl] at H;exact H
   clear H;have H:=H1;clear H1;replace H:=Option.bind_eq_some_iff.mp H;obtain ⟨ap,ey,H⟩:=H;replace H:(spec_l10Map.l2 k a2 l3 ap (ap.length:Int) 0 ag ah ae af)=some (r1,r2):=H;have hz:=qK ey;clear ey;have H':=qK H;clear H;go_enter Try.func149,Try.ntmps149
   go_wp2_with (first|((with_reducible refine gate_dst (N:=4) rfl ?_);refine box_event ?hg (N:=4) ?hd (cs:=#[.slice aH ag.length aC,.slice aD ah.length aE]) (t:=32) ?hr ?_;(case hd=>rfl);(case hg=>rfl);(case hr=>(go_simp;try rfl));intro ac hg hO hbox hb;have an:=qK (qT HB.out hb);have ao:=qK (hbox);have am:=qK ((by rw [hg];exact (qZ HB.out):w.heap.size≤ac));have aq:=am;clear HB;have HB:=an;have aa:=ao;have dO:=am;have aW:=aq;clear an ao am aq;clear hb hbox hg)|((with_reducible refine gate_dst (N:=5) rfl ?_);refine box_event ?hg (N:=5) ?hd (cs:=#[.slice aM ae.length aI,.slice aN af.length aJ]) (t:=32) ?hr ?_;(case hd=>rfl);(case hg=>rfl);(case hr=>(go_simp;try rfl));intro ad hg gU hbox hb;have an:=qK (qB (g:=ac) (o:=_) (by (with_reducible repeat (first|refine qN ?_ _|refine qW ?_|refine qL ?_ _));exact aa.out) hb);have ao:=qK (qT HB.out hb);have am:=qK (hbox);have aq:=qK ((by rw [hg];exact (qZ HB.out):w.heap.size≤ad));have au:=aq;have aG:=qK ((by rw [hg];exact Nat.ne_of_lt (blk_lt (g:=ac) (o:=_) (by (with_reducible repeat (first|refine qN ?_ _|refine qW ?_|refine qL ?_ _));exact aa.out)):ac ≠ ad));have bG:=qK aG.out.symm;clear aa HB;have aa:=an;have HB:=ao;have ab:=am;have dP:=aq;have aX:=au;have ay:=aG;have az:=bG;clear an ao am aq au aG bG hb hbox hg;have gV:=az.out;have gW:=ay.out;have dE:gU.cell? ⟨ad,0,none⟩=some (.slice aM ae.length aI):=(qC ab.out 0).trans rfl;have dF:gU.cell? ⟨ad,1,none⟩=some (.slice aN af.length aJ):=(qC ab.out 1).trans rfl;have dG:=qF ab.out 0;have dH:=qF ab.out 1)|((with_reducible refine gate_callee (f:=140) rfl ?_);refine goesL_ (some 57) rfl rfl Try.func140 (by kernel_rfl) rfl #[.agg #[.slice aM ae.length aI,.slice aN af.length aJ]] rfl (by (try simp only [mT,mC,mN]);first|done|rfl|(simp only [lD,lT];rfl)) ?_;(with_reducible refine (spec_l10Vars.calls k _ _ ae _ _ af bs _ ?side1 ?side2 ?side3 ?side4 gS.out).mono ?_);(case side1=>exact (cB bq.out HB.out));(case side2=>exact bE.out);(case side3=>exact (cB br.out HB.out));(case side4=>exact bF.out);rintro e gX ⟨ge,rfl,ho0,hb⟩;refine ⟨_,rfl,?_⟩;have an:=qK (Kd.V_lower (Kd.V_mono (ok':=fun k_=>k_ ≠ ac∧k_ ≠ ad) ho0 (fun k_ hk_=>⟨(Kd.freshB (g:=ac) (o:=_) (by (with_reducible repeat (first|refine qN ?_ _|refine qW ?_|refine qL ?_ _));exact aa.out) k_ hk_),(Kd.freshB (g:=ad) (o:=_) (by (with_reducible repeat (first|refine qN ?_ _|refine qW ?_|refine qL ?_ _));exact ab.out) k_ hk_)⟩)) (qZ HB.out));have ao:=qK (qB (g:=ac) (o:=_) (by (with_reducible repeat (first|refine qN ?_ _|refine qW ?_|refine qL ?_ _));exact aa.out) hb);have am:=qK (qB (g:=ad) (o:=_) (by (with_reducible repeat (first|refine qN ?_ _|refine qW ?_|refine qL ?_ _));exact ab.out) hb);have aq:=qK (qT HB.out hb);clear aa ab HB;have ak:=an;have aa:=ao;have ab:=am;have HB:=aq;clear an ao am aq;(try clear hb);(try clear ho0);obtain ⟨gf,gg,gh⟩:=Kd.V_slice ak.out;subst gh)|((with_reducible refine gate_callee (f:=82) rfl ?_);refine goesL_ (some 59) rfl rfl Try.func82 (by kernel_rfl) rfl #[.slice gf bs.length gg,.int .i64 a2] rfl (by (try simp only [mT,mC,mN]);first|done|rfl|(simp only [lD,lT];rfl)) ?_;(with_reducible refine (spec_l1Has.calls k _ _ bs a2 true _ ?side1 ?side2 gT.out).mono ?_);(case side1=>exact (Kd.V_reads' ak.out).2.2);(case side2=>exact (Kd.V_reads' ak.out).2.1);rintro e w' ⟨rfl,⟨nd,rfl⟩⟩;refine ⟨_,rfl,?_⟩;have dI:gX.cell? ⟨ac,0,none⟩=some (.slice aH ag.length aC):=(qC aa.out 0).trans rfl;have dJ:gX.cell? ⟨ac,1,none⟩=some (.slice aD ah.length aE):=(qC aa.out 1).trans rfl;have dK:=qF aa.out 0;have dL:=qF aa.out 1)|((with_reducible refine gate_callee (f:=140) rfl ?_);refine goesL_ (some 74) rfl rfl Try.func140 (by kernel_rfl) rfl #[.agg #[.slice aH ag.length aC,.slice aD ah.length aE]] rfl (by (try simp only [mT,mC,mN]);first|done|rfl|(simp only [lD,lT];rfl)) ?_;(with_reducible refine (spec_l10Vars.calls k _ _ ag _ _ ah ap _ ?side1 ?side2 ?side3 ?side4 hz.out).mono ?_);(case side1=>exact (cB bo.out (by repeat (with_reducible first|exact HB.out|apply qA|apply qD|apply qO|refine qS ?_ aW.out|refine qS ?_ aX.out))));(case side2=>exact bt.out);(case side3=>exact (cB bu.out (by repeat (with_reducible first|exact HB.out|apply qA|apply qD|apply qO|refine qS ?_ aW.out|refine qS ?_ aX.out))));(case side4=>exact bv.out);rintro e hP ⟨hA,rfl,ho0,hb⟩;refine ⟨_,rfl,?_⟩;have an:=qK (Kd.V_below (by (with_reducible repeat (first|apply Kd.V_alloc|apply Kd.V_drewN|apply Kd.V_drew));exact ak.out) hb);have ao:=qK (Kd.V_lower (Kd.V_mono (ok':=fun k_=>k_ ≠ ac∧k_ ≠ ad) ho0 (fun k_ hk_=>⟨(Kd.freshB (g:=ac) (o:=_) (by (with_reducible repeat (first|refine qN ?_ _|refine qW ?_|refine qL ?_ _));exact aa.out) k_ hk_),(Kd.freshB (g:=ad) (o:=_) (by (with_reducible repeat (first|refine qN ?_ _|refine qW ?_|refine qL ?_ _));exact ab.out) k_ hk_)⟩)) (qZ (by repeat (with_reducible first|exact HB.out|apply qA|apply qD|apply qO|refine qS ?_ aW.out|refine qS ?_ aX.out))));have am:=qK (qB (g:=ac) (o:=_) (by (with_reducible repeat (first|refine qN ?_ _|refine qW ?_|refine qL ?_ _));exact aa.out) hb);have aq:=qK (qB (g:=ad) (o:=_) (by (with_reducible repeat (first|refine qN ?_ _|refine qW ?_|refine qL ?_ _));exact ab.out) hb);have au:=qK (qT (by repeat (with_reducible first|exact HB.out|apply qA|apply qD|apply qO|refine qS ?_ aW.out|refine qS ?_ aX.out)) hb);clear ak aa ab HB;have ak:=an;have dX:=ao;have aa:=am;have ab:=aq;have HB:=au;clear an ao am aq au;(try clear hb);(try clear ho0);obtain ⟨gi,gj,gl⟩:=Kd.V_slice dX.out;subst gl))
   go_loopg [76] k (fun kq hB w'=>∃ (al:Int),hB=.int .i64 al∧Aside0 (spec_l10Map.l2 kq a2 l3 ap (ap.length:Int) al ag ah ae af=some (r1,r2))∧Aside0 (kq≤k)∧Aside0 (Kd.V (Kd.int .i64) 3 w' w.heap.size (fun k_=>k_ ≠ ac∧k_ ≠ ad) (.slice gi ap.length gj) ap)∧Aside0 (w'.heap[ac]?=some (.cells #[(.slice aH ag.length aC),(.slice aD ah.length aE)] 32 (0,0)))∧Aside0 (w'.heap[ad]?=some (.cells #[(.slice aM ae.length aI),(.slice aN af.length aJ)] 32 (0,0)))∧Aside0 (Below w.heap.size w w'))
   case atStart=>exact ⟨(0),(by rfl),H',⟨Nat.le_refl _⟩,⟨dX.out⟩,⟨aa.out⟩,⟨ab.out⟩,⟨HB.out⟩⟩
   case round =>
    clear H';try clear c1
    try clear c2
    try clear p2
    try clear c3
    try clear p3
    try clear q3
    try clear hx3
    try clear c4
    try clear c5
    try clear dk
    try clear dl
    try clear p6
    try clear c8
    try clear c10
    try clear cT
    try clear c11
    try clear dQ
    try clear c12
    try clear dR
    try clear c13
    try clear dS
    try clear c14
    try clear dT
    try clear c15
    try clear dU
    try clear c16
    try clear cU
    try clear cV
    try clear c18
    try clear c19
    try clear c21
    try clear dV
    try clear c22
    try clear em
    try clear c23
    try clear en
    try clear c25
    try clear c27
    try clear c28
    try clear c30
    try clear p31
    try clear q31
    try clear hx31
    try clear c32
    try clear p32
    try clear q32
    try clear hx32
    try clear c34
    try clear c35
    try clear c37
    try clear c40
    try clear c46
    try clear c50
    try clear cC
    try clear cD
    try clear dm
    try clear dn
    try clear dr
    try clear dt
    try clear dw
    try clear dx
    try clear dA
    try clear dB
    try clear dE
    try clear dF
    try clear dI
    try clear dJ
    try clear ct
    try clear cu
    try clear cE
    try clear cF
    try clear dp
    try clear dq
    try clear du
    try clear dv
    try clear dy
    try clear dz
    try clear dC
    try clear dD
    try clear dG
    try clear dH
    try clear dK
    try clear dL
    try clear cv
    try clear cw
    try clear bb
    try clear aP
    try clear aQ
    try clear bf
    try clear bg
    try clear p2
    try clear p3
    try clear bV
    try clear bX
    try clear bZ
    try clear ce
    try clear p6
    try clear q3
    try clear bW
    try clear bY
    try clear ca
    try clear cf
    obtain ⟨al,rfl,HA,cS,ai,aa,ab,HB⟩:=hrel;cases gk with
    | zero=>exact absurd HA.out (by simp [spec_l10Map.l2])
    | succ k1 =>
     have H:=HA.out;clear HA;simp only [spec_l10Map.l2] at H;by_cases c57:al < (ap.length:Int)
     ·rw [if_pos c57] at H;have ez:decide (al < (ap.length:Int))=true:=decide_eq_true c57;clear c57;by_cases c58:0≤al
      ·rw [if_pos c58] at H;have gY:decide (0≤al)=true:=decide_eq_true c58;clear c58;by_cases c59:al < (ap.length:Int)
       ·rw [if_pos c59] at H;have gZ:decide (al < (ap.length:Int))=true:=decide_eq_true c59;clear c59;obtain ⟨cx,ci⟩:∃ y_:List Int,y_=(([]:List Int)):=⟨_,rfl⟩;replace H:(if cx.length + l3.length < 17592186044416 then ((some (cx ++ l3:List Int)).bind fun bH=>((some (([rd ap al]:List Int):List Int)).bind fun bn=>(if bH.length + bn.length < 17592186044416 then ((some (bH ++ bn:List Int)).bind fun bd=>((spec_l10May.f k1 ag ah ae af bd).bind fun bP=>(if bP=true then ((spec_l10Map.f k1 ag ah ae af (wrap64 (a2 + 1)) bd).bind fun aY=>(if aY.2=true then (some (aY.1,true)) else (spec_l10Map.l2 k1 a2 l3 ap (ap.length:Int) (wrap64 (al + 1)) ag ah ae af))) else (spec_l10Map.l2 k1 a2 l3 ap (ap.length:Int) (wrap64 (al + 1)) ag ah ae af)))) else (none)))) else (none))=some (r1,r2):=by first|(rw [ci];with_reducible exact H)|(have bm:=(Option.bind_some _ _).symm.trans H;rw [ci];with_reducible exact bm)|(have bm:=(Option.bind_some _ _).symm.trans H;with_reducible exact bm)|with_reducible exact H|(rw [ci];exact H)|exact H
        have bS:=qK ci;clear ci;by_cases c60:cx.length + l3.length < 17592186044416
        ·rw [if_pos c60] at H;have dc:=qK c60;clear c60;obtain ⟨bH,cj⟩:∃ y_:List Int,y_=(cx ++ l3):=⟨_,rfl⟩;replace H:((some (([rd ap al]:List Int):List Int)).bind fun bn=>(if bH.length + bn.length < 17592186044416 then ((some (bH ++ bn:List Int)).bind fun bd=>((spec_l10May.f k1 ag ah ae af bd).bind fun bP=>(if bP=true then ((spec_l10Map.f k1 ag ah ae af (wrap64 (a2 + 1)) bd).bind fun aY=>(if aY.2=true then (some (aY.1,true)) else (spec_l10Map.l2 k1 a2 l3 ap (ap.length:Int) (wrap64 (al + 1)) ag ah ae af))) else (spec_l10Map.l2 k1 a2 l3 ap (ap.length:Int) (wrap64 (al + 1)) ag ah ae af)))) else (none)))=some (r1,r2):=by first|(rw [cj];with_reducible exact H)|(have bm:=(Option.bind_some _ _).symm.trans H;rw [cj];with_reducible exact bm)|(have bm:=(Option.bind_some _ _).symm.trans H;with_reducible exact bm)|with_reducible exact H|(rw [cj];exact H)|exact H
         have dd:=qK cj;clear cj;obtain ⟨bn,ck⟩:∃ y_:List Int,y_=(([rd ap al]:List Int)):=⟨_,rfl⟩;replace H:(if bH.length + bn.length < 17592186044416 then ((some (bH ++ bn:List Int)).bind fun bd=>((spec_l10May.f k1 ag ah ae af bd).bind fun bP=>(if bP=true then ((spec_l10Map.f k1 ag ah ae af (wrap64 (a2 + 1)) bd).bind fun aY=>(if aY.2=true then (some (aY.1,true)) else (spec_l10Map.l2 k1 a2 l3 ap (ap.length:Int) (wrap64 (al + 1)) ag ah ae af))) else (spec_l10Map.l2 k1 a2 l3 ap (ap.length:Int) (wrap64 (al + 1)) ag ah ae af)))) else (none))=some (r1,r2):=by first|(rw [ck];with_reducible exact H)|(have bm:=(Option.bind_some _ _).symm.trans H;rw [ck];with_reducible exact bm)|(have bm:=(Option.bind_some _ _).symm.trans H;with_reducible exact bm)|with_reducible exact H|(rw [ck];exact H)|exact H
         have bT:=qK ck;clear ck;by_cases c61:bH.length + bn.length < 17592186044416
         ·rw [if_pos c61] at H;have de:=qK c61;clear c61;obtain ⟨bd,cl⟩:∃ y_:List Int,y_=(bH ++ bn):=⟨_,rfl⟩;replace H:((spec_l10May.f k1 ag ah ae af bd).bind fun bP=>(if bP=true then ((spec_l10Map.f k1 ag ah ae af (wrap64 (a2 + 1)) bd).bind fun aY=>(if aY.2=true then (some (aY.1,true)) else (spec_l10Map.l2 k1 a2 l3 ap (ap.length:Int) (wrap64 (al + 1)) ag ah ae af))) else (spec_l10Map.l2 k1 a2 l3 ap (ap.length:Int) (wrap64 (al + 1)) ag ah ae af)))=some (r1,r2):=by first|(rw [cl];with_reducible exact H)|(have bm:=(Option.bind_some _ _).symm.trans H;rw [cl];with_reducible exact bm)|(have bm:=(Option.bind_some _ _).symm.trans H;with_reducible exact bm)|with_reducible exact H|(rw [cl];exact H)|exact H
          have df:=qK cl;clear cl;replace H:=Option.bind_eq_some_iff.mp H;obtain ⟨bP,eA,H⟩:=H;replace H:(if bP=true then ((spec_l10Map.f k1 ag ah ae af (wrap64 (a2 + 1)) bd).bind fun aY=>(if aY.2=true then (some (aY.1,true)) else (spec_l10Map.l2 k1 a2 l3 ap (ap.length:Int) (wrap64 (al + 1)) ag ah ae af))) else (spec_l10Map.l2 k1 a2 l3 ap (ap.length:Int) (wrap64 (al + 1)) ag ah ae af))=some (r1,r2):=H;have gm:=qK eA;clear eA;by_cases c63:bP=true
          ·subst c63;have H1:((spec_l10Map.f k1 ag ah ae af (wrap64 (a2 + 1)) bd).bind fun aY=>(if aY.2=true then (some (aY.1,true)) else (spec_l10Map.l2 k1 a2 l3 ap (ap.length:Int) (wrap64 (al + 1)) ag ah ae af)))=some (r1,r2):=by rw [if_pos rfl] at H;exact H
           clear H;have H:=H1;clear H1;replace H:=Option.bind_eq_some_iff.mp H;obtain ⟨⟨dM,eB⟩,eC,H⟩:=H;replace H:(if eB=true then (some (dM,true)) else (spec_l10Map.l2 k1 a2 l3 ap (ap.length:Int) (wrap64 (al + 1)) ag ah ae af))=some (r1,r2):=H;have ha:=qK eC;clear eC;by_cases c65:eB=true
           ·subst c65;have H1:(some (dM,true))=some (r1,r2):=by rw [if_pos rfl] at H;exact H
            clear H;have H:=H1;clear H1;simp only [Option.some.injEq,Prod.mk.injEq] at H;obtain ⟨rfl,rfl⟩:=H;have bK:0≤(al:Int):=of_decide_eq_true (by assumption);have bL:al < (ap.length:Int):=of_decide_eq_true (by assumption);obtain ⟨dY,dg,cH⟩:=Kd.at_int (Kd.V_reads' ai.out).2.2 al bK bL;cases dg
            replace bK:=eq_true bK;replace bL:=eq_true bL;go_wp2_with (first|((with_reducible refine gate_dst (N:=80) rfl ?_);refine Kd.R_lit (Kd.int .i64) _ 3 ?hg (N:=80) ?hd (xs:=([]:List Int)) (inner:=[]) (ok:=fun _=>True) (okp:=fun _=>True) ?hr ?hp (fun _ hk=>hk) trivial (Below.refl _ _) (Nat.le_refl _) (by simp) ?_;(case hd=>rfl);(case hg=>rfl);(case hr=>(go_simp;try rfl));(case hp=>exact (Reps.none _ _));intro dh hQ cO hb hg_ hnew_;clear hg_ hnew_;(first|rw [← bS.out] at cO|(simp only [Int.reduceToNat] at cO;rw [← bS.out] at cO));have an:=qK (Kd.V_elder' ai.out (Kd.R_base cO) hb);have ao:=qK (Kd.R_lower cO (qZ HB.out));have am:=qK (qB (g:=ac) (o:=_) aa.out hb);have aq:=qK (qB (g:=ad) (o:=_) ab.out hb);have au:=qK (qT HB.out hb);clear ai aa ab HB;have ai:=an;have bh:=ao;have aa:=am;have ab:=aq;have HB:=au;clear an ao am aq au;clear hb cO)|((with_reducible refine gate_builtin (b:=.append) (xs:=#[.tmp 80,.tmp 81]) rfl ?_);at_builtin;refine Kd.R_append_rows (Kd.int .i64) (w0:=w) w.heap.size rfl (.tmp 80) (.tmp 81) 22 3 (.int .i64 0) 8 rfl Try.underlying22 info3 rfl (by decide) (by omega) dh cx l3 _ _ _ (fun _=>True) (fun _=>False) rfl rfl ?aO ?aR (fun _ _ h=>h) (fun _ h=>h.elim) ?aF ?aB ?aS ?aL ?_;(case aR=>repeat (first|exact (cB cR.out HB.out)|(with_reducible first|refine cL ?_ _|refine cN ?_ _|refine cW ?_)));(case aB=>exact HB.out);(case aF=>exact (fun _ _=>trivial));(case aO=>exact bh.out);(case aS=>exact (qZ HB.out));(case aL=>have:=dc.out;omega);intro di hR ho hb hg hat;rw [← dd.out] at ho;have an:=qK (Kd.V_afterv (ok:=(fun k_=>k_ ≠ ac∧k_ ≠ ad)) ai.out hg hat);have ao:=qK (blk_grown (g:=ac) (o:=_) aa.out hg (Kd.R_ne bh.out aa.out (by decide)));have am:=qK (blk_grown (g:=ad) (o:=_) ab.out hg (Kd.R_ne bh.out ab.out (by decide)));have aq:=qK (hb);have au:=qK (ho);clear ai aa ab HB bh;have ai:=an;have aa:=ao;have ab:=am;have HB:=aq;have aA:=au;clear an ao am aq au;clear ho hb hg hat)|((with_reducible refine gate_dst (N:=84) rfl ?_);refine Kd.R_lit (Kd.int .i64) _ 3 ?hg (N:=84) ?hd (xs:=([rd ap al]:List Int)) (inner:=[.int .i64 (rd ap al)]) (ok:=fun _=>True) (okp:=fun _=>True) ?hr ?hp (fun _ hk=>hk) trivial (Below.refl _ _) (Nat.le_refl _) (by simp) ?_;(case hd=>rfl);(case hg=>rfl);(case hr=>(go_simp;try rfl));(case hp=>exact (Reps.one (show Kd.M (Kd.int .i64) _ _ _ (rd ap al) [.int .i64 (rd ap al)] from rfl) (Reps.none _ _)));intro eD hS cy hb hg_ hnew_;clear hg_ hnew_;(first|rw [← bT.out] at cy|(simp only [Int.reduceToNat] at cy;rw [← bT.out] at cy));have an:=qK (Kd.V_elder' ai.out (Kd.R_base cy) hb);have ao:=qK (Kd.R_elder' aA.out (Kd.R_base cy) hb);have am:=qK (Kd.R_lower (Kd.R_new' cy (Kd.R_lt aA.out)) (qZ HB.out));have aq:=qK (qB (g:=ac) (o:=_) aa.out hb);have au:=qK (qB (g:=ad) (o:=_) ab.out hb);have aG:=qK (qT HB.out hb);clear ai aA aa ab HB;have ai:=an;have aA:=ao;have ar:=am;have aa:=aq;have ab:=au;have HB:=aG;clear an ao am aq au aG hb cy;obtain ⟨eE,eF,gn⟩:=Kd.R_slice ar.out;subst gn)|((with_reducible refine gate_builtin (b:=.append) (xs:=#[.tmp 82,.tmp 84]) rfl ?_);at_builtin;refine Kd.R_append_rows (Kd.int .i64) (w0:=w) w.heap.size rfl (.tmp 82) (.tmp 84) 22 3 (.int .i64 0) 8 rfl Try.underlying22 info3 rfl (by decide) (by omega) di bH bn _ _ _ (fun k_=>some k_ ≠ (.slice eE bn.length eF:Value).ownBlock) (fun _=>False) rfl rfl ?aO ?aR (fun _ _ h=>h) (fun _ h=>h.elim) ?aF ?aB ?aS ?aL ?_;(case aR=>repeat (first|exact (Kd.R_reads' ar.out).2.2|(with_reducible first|refine cL ?_ _|refine cN ?_ _|refine cW ?_)));(case aB=>exact HB.out);(case aF=>exact (fun k_ hk=>Kd.fresh' (Kd.R_lt ar.out) k_ hk));(case aO=>exact (Kd.R_mono aA.out (fun _ hk=>hk.2)));(case aS=>exact (qZ HB.out));(case aL=>have:=de.out;omega);intro eG fq ho hb hg hat;rw [← df.out] at ho;have an:=qK (Kd.V_afterv (ok:=(fun k_=>some k_ ≠ (.slice eE bn.length eF:Value).ownBlock∧k_ ≠ ac∧k_ ≠ ad)) (Kd.V_mono ai.out (fun _ hk=>⟨⟨hk.2,⟨hk.1.1.1,hk.1.1.2⟩⟩,hk.1.2⟩)) hg hat);have ao:=qK (blk_grown (g:=ac) (o:=_) aa.out hg (Kd.R_ne aA.out aa.out (by decide)));have am:=qK (blk_grown (g:=ad) (o:=_) ab.out hg (Kd.R_ne aA.out ab.out (by decide)));have aq:=qK (Kd.R_after (ok:=(fun _=>True)) ar.out hg hat);have au:=qK (hb);have aG:=qK (ho);clear ai aa ab ar HB aA;have ai:=an;have aa:=ao;have ab:=am;have ar:=aq;have HB:=au;have aw:=aG;clear an ao am aq au aG ho hb hg hat;have hc:=ay.out;have he:=az.out;have fr:fq.cell? ⟨ac,0,none⟩=some (.slice aH ag.length aC):=(qC aa.out 0).trans rfl;have fs:fq.cell? ⟨ac,1,none⟩=some (.slice aD ah.length aE):=(qC aa.out 1).trans rfl;have ft:=qF aa.out 0;have fu:=qF aa.out 1;have fv:fq.cell? ⟨ad,0,none⟩=some (.slice aM ae.length aI):=(qC ab.out 0).trans rfl;have fw:fq.cell? ⟨ad,1,none⟩=some (.slice aN af.length aJ):=(qC ab.out 1).trans rfl;have fx:=qF ab.out 0;have fy:=qF ab.out 1;obtain ⟨eH,eI,gp⟩:=Kd.R_slice aw.out;subst gp)|((with_reducible refine gate_callee (f:=184) rfl ?_);refine goesL_ (some 89) rfl rfl Try.func184 (by kernel_rfl) rfl #[.agg #[.slice aH ag.length aC,.slice aD ah.length aE],.agg #[.slice aM ae.length aI,.slice aN af.length aJ],.slice eH bd.length eI] rfl (by (try simp only [mT,mC,mN]);first|done|rfl|(simp only [lD,lT];rfl)) ?_;(with_reducible refine (spec_l10May.calls k1 _ _ ag _ _ ah _ _ ae _ _ af _ _ bd true _ ?side1 ?side2 ?side3 ?side4 ?side5 ?side6 ?side7 ?side8 ?side9 ?side10 gm.out).mono ?_);(case side1=>exact (cB bo.out HB.out));(case side2=>exact bt.out);(case side3=>exact (cB bu.out HB.out));(case side4=>exact bv.out);(case side5=>exact (cB bq.out HB.out));(case side6=>exact bE.out);(case side7=>exact (cB br.out HB.out));(case side8=>exact bF.out);(case side9=>exact (Kd.R_reads' aw.out).2.2);(case side10=>exact (Kd.R_reads' aw.out).2.1);rintro e fz ⟨rfl,hb⟩;refine ⟨_,rfl,?_⟩;have an:=qK (Kd.V_below ai.out hb);have ao:=qK (rB ar.out hb);have am:=qK (rB aw.out hb);have aq:=qK (qB (g:=ac) (o:=_) aa.out hb);have au:=qK (qB (g:=ad) (o:=_) ab.out hb);have aG:=qK (qT HB.out hb);clear ai ar aw aa ab HB;have ai:=an;have ar:=ao;have aw:=am;have aa:=aq;have ab:=au;have HB:=aG;clear an ao am aq au aG;(try clear hb);have fA:fz.cell? ⟨ac,0,none⟩=some (.slice aH ag.length aC):=(qC aa.out 0).trans rfl;have fB:fz.cell? ⟨ac,1,none⟩=some (.slice aD ah.length aE):=(qC aa.out 1).trans rfl;have fC:=qF aa.out 0;have fD:=qF aa.out 1;have fE:fz.cell? ⟨ad,0,none⟩=some (.slice aM ae.length aI):=(qC ab.out 0).trans rfl;have fF:fz.cell? ⟨ad,1,none⟩=some (.slice aN af.length aJ):=(qC ab.out 1).trans rfl;have fG:=qF ab.out 0;have fH:=qF ab.out 1)|((with_reducible refine gate_callee (f:=149) rfl ?_);refine goesL_ (some 97) rfl rfl Try.func149 (by kernel_rfl) rfl #[.agg #[.slice aH ag.length aC,.slice aD ah.length aE],.agg #[.slice aM ae.length aI,.slice aN af.length aJ],.int .i64 (wrap64 (a2 + 1)),.slice eH bd.length eI] rfl (by (try simp only [mT,mC,mN]);first|done|rfl|(simp only [lD,lT];rfl)) ?_;(with_reducible refine (ih k1 (by have:=cS.out;omega) _ _ ag _ _ ah _ _ ae _ _ af (wrap64 (a2 + 1)) _ _ bd dM true _ ?side1 ?side2 ?side3 ?side4 ?side5 ?side6 ?side7 ?side8 ?side9 ?side10 ha.out).mono ?_);(case side1=>exact (cB bo.out HB.out));(case side2=>exact bt.out);(case side3=>exact (cB bu.out HB.out));(case side4=>exact bv.out);(case side5=>exact (cB bq.out HB.out));(case side6=>exact bE.out);(case side7=>exact (cB br.out HB.out));(case side8=>exact bF.out);(case side9=>exact (Kd.R_reads' aw.out).2.2);(case side10=>exact (Kd.R_reads' aw.out).2.1);rintro e hT ⟨gq,rfl,ho0,hb⟩;refine ⟨_,rfl,?_⟩;have an:=qK (Kd.V_elder' ai.out (Kd.R_base ho0) hb);have ao:=qK (Kd.R_elder' ar.out (Kd.R_base ho0) hb);have am:=qK (Kd.R_elder' aw.out (Kd.R_base ho0) hb);have aq:=qK (Kd.R_lower (Kd.R_new' (Kd.R_new' ho0 (Kd.R_lt ar.out)) (Kd.R_lt aw.out)) (qZ HB.out));have au:=qK (qB (g:=ac) (o:=_) aa.out hb);have aG:=qK (qB (g:=ad) (o:=_) ab.out hb);have bG:=qK (qT HB.out hb);clear ai ar aw aa ab HB;have ai:=an;have ar:=ao;have aw:=am;have dZ:=aq;have aa:=au;have ab:=aG;have HB:=bG;clear an ao am aq au aG bG;(try clear hb);(try clear ho0)))
            go_ret2
            exact ⟨_,by rfl,Kd.R_mono dZ.out (fun _ hk=>trivial),HB.out⟩
           ·replace c65:=Bool.eq_false_iff.mpr c65;subst c65;have H1:(spec_l10Map.l2 k1 a2 l3 ap (ap.length:Int) (wrap64 (al + 1)) ag ah ae af)=some (r1,r2):=by rw [if_neg (show ¬ (false=true) by decide)] at H;exact H
            clear H;have H:=H1;clear H1;have H':=qK H;clear H;have bK:0≤(al:Int):=of_decide_eq_true (by assumption);have bL:al < (ap.length:Int):=of_decide_eq_true (by assumption);obtain ⟨dY,dg,cH⟩:=Kd.at_int (Kd.V_reads' ai.out).2.2 al bK bL;cases dg
            replace bK:=eq_true bK;replace bL:=eq_true bL;go_wp2_with (first|((with_reducible refine gate_dst (N:=80) rfl ?_);refine Kd.R_lit (Kd.int .i64) _ 3 ?hg (N:=80) ?hd (xs:=([]:List Int)) (inner:=[]) (ok:=fun _=>True) (okp:=fun _=>True) ?hr ?hp (fun _ hk=>hk) trivial (Below.refl _ _) (Nat.le_refl _) (by simp) ?_;(case hd=>rfl);(case hg=>rfl);(case hr=>(go_simp;try rfl));(case hp=>exact (Reps.none _ _));intro dh hU cP hb hg_ hnew_;clear hg_ hnew_;(first|rw [← bS.out] at cP|(simp only [Int.reduceToNat] at cP;rw [← bS.out] at cP));have an:=qK (Kd.V_elder' ai.out (Kd.R_base cP) hb);have ao:=qK (Kd.R_lower cP (qZ HB.out));have am:=qK (qB (g:=ac) (o:=_) aa.out hb);have aq:=qK (qB (g:=ad) (o:=_) ab.out hb);have au:=qK (qT HB.out hb);clear ai aa ab HB;have ai:=an;have bh:=ao;have aa:=am;have ab:=aq;have HB:=au;clear an ao am aq au;clear hb cP)|((with_reducible refine gate_builtin (b:=.append) (xs:=#[.tmp 80,.tmp 81]) rfl ?_);at_builtin;refine Kd.R_append_rows (Kd.int .i64) (w0:=w) w.heap.size rfl (.tmp 80) (.tmp 81) 22 3 (.int .i64 0) 8 rfl Try.underlying22 info3 rfl (by decide) (by omega) dh cx l3 _ _ _ (fun _=>True) (fun _=>False) rfl rfl ?aO ?aR (fun _ _ h=>h) (fun _ h=>h.elim) ?aF ?aB ?aS ?aL ?_;(case aR=>repeat (first|exact (cB cR.out HB.out)|(with_reducible first|refine cL ?_ _|refine cN ?_ _|refine cW ?_)));(case aB=>exact HB.out);(case aF=>exact (fun _ _=>trivial));(case aO=>exact bh.out);(case aS=>exact (qZ HB.out));(case aL=>have:=dc.out;omega);intro di hV ho hb hg hat;rw [← dd.out] at ho;have an:=qK (Kd.V_afterv (ok:=(fun k_=>k_ ≠ ac∧k_ ≠ ad)) ai.out hg hat);have ao:=qK (blk_grown (g:=ac) (o:=_) aa.out hg (Kd.R_ne bh.out aa.out (by decide)));have am:=qK (blk_grown (g:=ad) (o:=_) ab.out hg (Kd.R_ne bh.out ab.out (by decide)));have aq:=qK (hb);have au:=qK (ho);clear ai aa ab HB bh;have ai:=an;have aa:=ao;have ab:=am;have HB:=aq;have aA:=au;clear an ao am aq au;clear ho hb hg hat)|((with_reducible refine gate_dst (N:=84) rfl ?_);refine Kd.R_lit (Kd.int .i64) _ 3 ?hg (N:=84) ?hd (xs:=([rd ap al]:List Int)) (inner:=[.int .i64 (rd ap al)]) (ok:=fun _=>True) (okp:=fun _=>True) ?hr ?hp (fun _ hk=>hk) trivial (Below.refl _ _) (Nat.le_refl _) (by simp) ?_;(case hd=>rfl);(case hg=>rfl);(case hr=>(go_simp;try rfl));(case hp=>exact (Reps.one (show Kd.M (Kd.int .i64) _ _ _ (rd ap al) [.int .i64 (rd ap al)] from rfl) (Reps.none _ _)));intro eD hW cz hb hg_ hnew_;clear hg_ hnew_;(first|rw [← bT.out] at cz|(simp only [Int.reduceToNat] at cz;rw [← bT.out] at cz));have an:=qK (Kd.V_elder' ai.out (Kd.R_base cz) hb);have ao:=qK (Kd.R_elder' aA.out (Kd.R_base cz) hb);have am:=qK (Kd.R_lower (Kd.R_new' cz (Kd.R_lt aA.out)) (qZ HB.out));have aq:=qK (qB (g:=ac) (o:=_) aa.out hb);have au:=qK (qB (g:=ad) (o:=_) ab.out hb);have aG:=qK (qT HB.out hb);clear ai aA aa ab HB;have ai:=an;have aA:=ao;have ar:=am;have aa:=aq;have ab:=au;have HB:=aG;clear an ao am aq au aG hb cz;obtain ⟨eJ,eK,gr⟩:=Kd.R_slice ar.out;subst gr)|((with_reducible refine gate_builtin (b:=.append) (xs:=#[.tmp 82,.tmp 84]) rfl ?_);at_builtin;refine Kd.R_append_rows (Kd.int .i64) (w0:=w) w.heap.size rfl (.tmp 82) (.tmp 84) 22 3 (.int .i64 0) 8 rfl Try.underlying22 info3 rfl (by decide) (by omega) di bH bn _ _ _ (fun k_=>some k_ ≠ (.slice eJ bn.length eK:Value).ownBlock) (fun _=>False) rfl rfl ?aO ?aR (fun _ _ h=>h) (fun _ h=>h.elim) ?aF ?aB ?aS ?aL ?_;(case aR=>repeat (first|exact (Kd.R_reads' ar.out).2.2|(with_reducible first|refine cL ?_ _|refine cN ?_ _|refine cW ?_)));(case aB=>exact HB.out);(case aF=>exact (fun k_ hk=>Kd.fresh' (Kd.R_lt ar.out) k_ hk));(case aO=>exact (Kd.R_mono aA.out (fun _ hk=>hk.2)));(case aS=>exact (qZ HB.out));(case aL=>have:=de.out;omega);intro eG fI ho hb hg hat;rw [← df.out] at ho;have an:=qK (Kd.V_afterv (ok:=(fun k_=>some k_ ≠ (.slice eJ bn.length eK:Value).ownBlock∧k_ ≠ ac∧k_ ≠ ad)) (Kd.V_mono ai.out (fun _ hk=>⟨⟨hk.2,⟨hk.1.1.1,hk.1.1.2⟩⟩,hk.1.2⟩)) hg hat);have ao:=qK (blk_grown (g:=ac) (o:=_) aa.out hg (Kd.R_ne aA.out aa.out (by decide)));have am:=qK (blk_grown (g:=ad) (o:=_) ab.out hg (Kd.R_ne aA.out ab.out (by decide)));have aq:=qK (Kd.R_after (ok:=(fun _=>True)) ar.out hg hat);have au:=qK (hb);have aG:=qK (ho);clear ai aa ab ar HB aA;have ai:=an;have aa:=ao;have ab:=am;have ar:=aq;have HB:=au;have aw:=aG;clear an ao am aq au aG ho hb hg hat;have hf:=ay.out;have hh:=az.out;have fJ:fI.cell? ⟨ac,0,none⟩=some (.slice aH ag.length aC):=(qC aa.out 0).trans rfl;have fK:fI.cell? ⟨ac,1,none⟩=some (.slice aD ah.length aE):=(qC aa.out 1).trans rfl;have fL:=qF aa.out 0;have fM:=qF aa.out 1;have fN:fI.cell? ⟨ad,0,none⟩=some (.slice aM ae.length aI):=(qC ab.out 0).trans rfl;have fO:fI.cell? ⟨ad,1,none⟩=some (.slice aN af.length aJ):=(qC ab.out 1).trans rfl;have fP:=qF ab.out 0;have fQ:=qF ab.out 1;obtain ⟨eL,eM,gs⟩:=Kd.R_slice aw.out;subst gs)|((with_reducible refine gate_callee (f:=184) rfl ?_);refine goesL_ (some 89) rfl rfl Try.func184 (by kernel_rfl) rfl #[.agg #[.slice aH ag.length aC,.slice aD ah.length aE],.agg #[.slice aM ae.length aI,.slice aN af.length aJ],.slice eL bd.length eM] rfl (by (try simp only [mT,mC,mN]);first|done|rfl|(simp only [lD,lT];rfl)) ?_;(with_reducible refine (spec_l10May.calls k1 _ _ ag _ _ ah _ _ ae _ _ af _ _ bd true _ ?side1 ?side2 ?side3 ?side4 ?side5 ?side6 ?side7 ?side8 ?side9 ?side10 gm.out).mono ?_);(case side1=>exact (cB bo.out HB.out));(case side2=>exact bt.out);(case side3=>exact (cB bu.out HB.out));(case side4=>exact bv.out);(case side5=>exact (cB bq.out HB.out));(case side6=>exact bE.out);(case side7=>exact (cB br.out HB.out));(case side8=>exact bF.out);(case side9=>exact (Kd.R_reads' aw.out).2.2);(case side10=>exact (Kd.R_reads' aw.out).2.1);rintro e fR ⟨rfl,hb⟩;refine ⟨_,rfl,?_⟩;have an:=qK (Kd.V_below ai.out hb);have ao:=qK (rB ar.out hb);have am:=qK (rB aw.out hb);have aq:=qK (qB (g:=ac) (o:=_) aa.out hb);have au:=qK (qB (g:=ad) (o:=_) ab.out hb);have aG:=qK (qT HB.out hb);clear ai ar aw aa ab HB;have ai:=an;have ar:=ao;have aw:=am;have aa:=aq;have ab:=au;have HB:=aG;clear an ao am aq au aG;(try clear hb);have fS:fR.cell? ⟨ac,0,none⟩=some (.slice aH ag.length aC):=(qC aa.out 0).trans rfl;have fT:fR.cell? ⟨ac,1,none⟩=some (.slice aD ah.length aE):=(qC aa.out 1).trans rfl;have fU:=qF aa.out 0;have fV:=qF aa.out 1;have fW:fR.cell? ⟨ad,0,none⟩=some (.slice aM ae.length aI):=(qC ab.out 0).trans rfl;have fX:fR.cell? ⟨ad,1,none⟩=some (.slice aN af.length aJ):=(qC ab.out 1).trans rfl;have fY:=qF ab.out 0;have fZ:=qF ab.out 1)|((with_reducible refine gate_callee (f:=149) rfl ?_);refine goesL_ (some 97) rfl rfl Try.func149 (by kernel_rfl) rfl #[.agg #[.slice aH ag.length aC,.slice aD ah.length aE],.agg #[.slice aM ae.length aI,.slice aN af.length aJ],.int .i64 (wrap64 (a2 + 1)),.slice eL bd.length eM] rfl (by (try simp only [mT,mC,mN]);first|done|rfl|(simp only [lD,lT];rfl)) ?_;(with_reducible refine (ih k1 (by have:=cS.out;omega) _ _ ag _ _ ah _ _ ae _ _ af (wrap64 (a2 + 1)) _ _ bd dM false _ ?side1 ?side2 ?side3 ?side4 ?side5 ?side6 ?side7 ?side8 ?side9 ?side10 ha.out).mono ?_);(case side1=>exact (cB bo.out HB.out));(case side2=>exact bt.out);(case side3=>exact (cB bu.out HB.out));(case side4=>exact bv.out);(case side5=>exact (cB bq.out HB.out));(case side6=>exact bE.out);(case side7=>exact (cB br.out HB.out));(case side8=>exact bF.out);(case side9=>exact (Kd.R_reads' aw.out).2.2);(case side10=>exact (Kd.R_reads' aw.out).2.1);rintro e hX ⟨gq,rfl,ho0,hb⟩;refine ⟨_,rfl,?_⟩;have an:=qK (Kd.V_elder' ai.out (Kd.R_base ho0) hb);have ao:=qK (Kd.R_elder' ar.out (Kd.R_base ho0) hb);have am:=qK (Kd.R_elder' aw.out (Kd.R_base ho0) hb);have aq:=qK (Kd.R_lower (Kd.R_new' (Kd.R_new' ho0 (Kd.R_lt ar.out)) (Kd.R_lt aw.out)) (qZ HB.out));have au:=qK (qB (g:=ac) (o:=_) aa.out hb);have aG:=qK (qB (g:=ad) (o:=_) ab.out hb);have bG:=qK (qT HB.out hb);clear ai ar aw aa ab HB;have ai:=an;have ar:=ao;have aw:=am;have dZ:=aq;have aa:=au;have ab:=aG;have HB:=bG;clear an ao am aq au aG bG;(try clear hb);(try clear ho0)))
            go_roundg k1
            case measure=>have:=cS.out;omega
            case rel=>exact ⟨(wrap64 (al + 1)),(by rfl),H',⟨by have:=cS.out;omega⟩,⟨Kd.V_mono ai.out (fun _ hk=>⟨hk.1.1.2.1,hk.1.1.2.2⟩)⟩,⟨aa.out⟩,⟨ab.out⟩,⟨HB.out⟩⟩
          ·replace c63:=Bool.eq_false_iff.mpr c63;subst c63;have H1:(spec_l10Map.l2 k1 a2 l3 ap (ap.length:Int) (wrap64 (al + 1)) ag ah ae af)=some (r1,r2):=by rw [if_neg (show ¬ (false=true) by decide)] at H;exact H
           clear H;have H:=H1;clear H1;have H':=qK H;clear H;have bK:0≤(al:Int):=of_decide_eq_true (by assumption);have bL:al < (ap.length:Int):=of_decide_eq_true (by assumption);obtain ⟨dY,dg,cH⟩:=Kd.at_int (Kd.V_reads' ai.out).2.2 al bK bL;cases dg
           replace bK:=eq_true bK;replace bL:=eq_true bL;go_wp2_with (first|((with_reducible refine gate_dst (N:=80) rfl ?_);refine Kd.R_lit (Kd.int .i64) _ 3 ?hg (N:=80) ?hd (xs:=([]:List Int)) (inner:=[]) (ok:=fun _=>True) (okp:=fun _=>True) ?hr ?hp (fun _ hk=>hk) trivial (Below.refl _ _) (Nat.le_refl _) (by simp) ?_;(case hd=>rfl);(case hg=>rfl);(case hr=>(go_simp;try rfl));(case hp=>exact (Reps.none _ _));intro dh hY cQ hb hg_ hnew_;clear hg_ hnew_;(first|rw [← bS.out] at cQ|(simp only [Int.reduceToNat] at cQ;rw [← bS.out] at cQ));have an:=qK (Kd.V_elder' ai.out (Kd.R_base cQ) hb);have ao:=qK (Kd.R_lower cQ (qZ HB.out));have am:=qK (qB (g:=ac) (o:=_) aa.out hb);have aq:=qK (qB (g:=ad) (o:=_) ab.out hb);have au:=qK (qT HB.out hb);clear ai aa ab HB;have ai:=an;have bh:=ao;have aa:=am;have ab:=aq;have HB:=au;clear an ao am aq au;clear hb cQ)|((with_reducible refine gate_builtin (b:=.append) (xs:=#[.tmp 80,.tmp 81]) rfl ?_);at_builtin;refine Kd.R_append_rows (Kd.int .i64) (w0:=w) w.heap.size rfl (.tmp 80) (.tmp 81) 22 3 (.int .i64 0) 8 rfl Try.underlying22 info3 rfl (by decide) (by omega) dh cx l3 _ _ _ (fun _=>True) (fun _=>False) rfl rfl ?aO ?aR (fun _ _ h=>h) (fun _ h=>h.elim) ?aF ?aB ?aS ?aL ?_;(case aR=>repeat (first|exact (cB cR.out HB.out)|(with_reducible first|refine cL ?_ _|refine cN ?_ _|refine cW ?_)));(case aB=>exact HB.out);(case aF=>exact (fun _ _=>trivial));(case aO=>exact bh.out);(case aS=>exact (qZ HB.out));(case aL=>have:=dc.out;omega);intro di hZ ho hb hg hat;rw [← dd.out] at ho;have an:=qK (Kd.V_afterv (ok:=(fun k_=>k_ ≠ ac∧k_ ≠ ad)) ai.out hg hat);have ao:=qK (blk_grown (g:=ac) (o:=_) aa.out hg (Kd.R_ne bh.out aa.out (by decide)));have am:=qK (blk_grown (g:=ad) (o:=_) ab.out hg (Kd.R_ne bh.out ab.out (by decide)));have aq:=qK (hb);have au:=qK (ho);clear ai aa ab HB bh;have ai:=an;have aa:=ao;have ab:=am;have HB:=aq;have aA:=au;clear an ao am aq au;clear ho hb hg hat)|((with_reducible refine gate_dst (N:=84) rfl ?_);refine Kd.R_lit (Kd.int .i64) _ 3 ?hg (N:=84) ?hd (xs:=([rd ap al]:List Int)) (inner:=[.int .i64 (rd ap al)]) (ok:=fun _=>True) (okp:=fun _=>True) ?hr ?hp (fun _ hk=>hk) trivial (Below.refl _ _) (Nat.le_refl _) (by simp) ?_;(case hd=>rfl);(case hg=>rfl);(case hr=>(go_simp;try rfl));(case hp=>exact (Reps.one (show Kd.M (Kd.int .i64) _ _ _ (rd ap al) [.int .i64 (rd ap al)] from rfl) (Reps.none _ _)));intro eD ia bM hb hg_ hnew_;clear hg_ hnew_;(first|rw [← bT.out] at bM|(simp only [Int.reduceToNat] at bM;rw [← bT.out] at bM));have an:=qK (Kd.V_elder' ai.out (Kd.R_base bM) hb);have ao:=qK (Kd.R_elder' aA.out (Kd.R_base bM) hb);have am:=qK (Kd.R_lower (Kd.R_new' bM (Kd.R_lt aA.out)) (qZ HB.out));have aq:=qK (qB (g:=ac) (o:=_) aa.out hb);have au:=qK (qB (g:=ad) (o:=_) ab.out hb);have aG:=qK (qT HB.out hb);clear ai aA aa ab HB;have ai:=an;have aA:=ao;have ar:=am;have aa:=aq;have ab:=au;have HB:=aG;clear an ao am aq au aG hb bM;obtain ⟨ea,eb,eN⟩:=Kd.R_slice ar.out;subst eN)|((with_reducible refine gate_builtin (b:=.append) (xs:=#[.tmp 82,.tmp 84]) rfl ?_);at_builtin;refine Kd.R_append_rows (Kd.int .i64) (w0:=w) w.heap.size rfl (.tmp 82) (.tmp 84) 22 3 (.int .i64 0) 8 rfl Try.underlying22 info3 rfl (by decide) (by omega) di bH bn _ _ _ (fun k_=>some k_ ≠ (.slice ea bn.length eb:Value).ownBlock) (fun _=>False) rfl rfl ?aO ?aR (fun _ _ h=>h) (fun _ h=>h.elim) ?aF ?aB ?aS ?aL ?_;(case aR=>repeat (first|exact (Kd.R_reads' ar.out).2.2|(with_reducible first|refine cL ?_ _|refine cN ?_ _|refine cW ?_)));(case aB=>exact HB.out);(case aF=>exact (fun k_ hk=>Kd.fresh' (Kd.R_lt ar.out) k_ hk));(case aO=>exact (Kd.R_mono aA.out (fun _ hk=>hk.2)));(case aS=>exact (qZ HB.out));(case aL=>have:=de.out;omega);intro eG dN ho hb hg hat;rw [← df.out] at ho;have an:=qK (Kd.V_afterv (ok:=(fun k_=>some k_ ≠ (.slice ea bn.length eb:Value).ownBlock∧k_ ≠ ac∧k_ ≠ ad)) (Kd.V_mono ai.out (fun _ hk=>⟨⟨hk.2,⟨hk.1.1.1,hk.1.1.2⟩⟩,hk.1.2⟩)) hg hat);have ao:=qK (blk_grown (g:=ac) (o:=_) aa.out hg (Kd.R_ne aA.out aa.out (by decide)));have am:=qK (blk_grown (g:=ad) (o:=_) ab.out hg (Kd.R_ne aA.out ab.out (by decide)));have aq:=qK (Kd.R_after (ok:=(fun _=>True)) ar.out hg hat);have au:=qK (hb);have aG:=qK (ho);clear ai aa ab ar HB aA;have ai:=an;have aa:=ao;have ab:=am;have ar:=aq;have HB:=au;have aw:=aG;clear an ao am aq au aG ho hb hg hat;have gt:=ay.out;have gu:=az.out;have eO:dN.cell? ⟨ac,0,none⟩=some (.slice aH ag.length aC):=(qC aa.out 0).trans rfl;have eP:dN.cell? ⟨ac,1,none⟩=some (.slice aD ah.length aE):=(qC aa.out 1).trans rfl;have eQ:=qF aa.out 0;have eR:=qF aa.out 1;have eS:dN.cell? ⟨ad,0,none⟩=some (.slice aM ae.length aI):=(qC ab.out 0).trans rfl;have eT:dN.cell? ⟨ad,1,none⟩=some (.slice aN af.length aJ):=(qC ab.out 1).trans rfl;have eU:=qF ab.out 0;have eV:=qF ab.out 1;obtain ⟨eW,eX,eY⟩:=Kd.R_slice aw.out;subst eY)|((with_reducible refine gate_callee (f:=184) rfl ?_);refine goesL_ (some 89) rfl rfl Try.func184 (by kernel_rfl) rfl #[.agg #[.slice aH ag.length aC,.slice aD ah.length aE],.agg #[.slice aM ae.length aI,.slice aN af.length aJ],.slice eW bd.length eX] rfl (by (try simp only [mT,mC,mN]);first|done|rfl|(simp only [lD,lT];rfl)) ?_;(with_reducible refine (spec_l10May.calls k1 _ _ ag _ _ ah _ _ ae _ _ af _ _ bd false _ ?side1 ?side2 ?side3 ?side4 ?side5 ?side6 ?side7 ?side8 ?side9 ?side10 gm.out).mono ?_);(case side1=>exact (cB bo.out HB.out));(case side2=>exact bt.out);(case side3=>exact (cB bu.out HB.out));(case side4=>exact bv.out);(case side5=>exact (cB bq.out HB.out));(case side6=>exact bE.out);(case side7=>exact (cB br.out HB.out));(case side8=>exact bF.out);(case side9=>exact (Kd.R_reads' aw.out).2.2);(case side10=>exact (Kd.R_reads' aw.out).2.1);rintro e hC ⟨rfl,hb⟩;refine ⟨_,rfl,?_⟩;have an:=qK (Kd.V_below ai.out hb);have ao:=qK (rB ar.out hb);have am:=qK (rB aw.out hb);have aq:=qK (qB (g:=ac) (o:=_) aa.out hb);have au:=qK (qB (g:=ad) (o:=_) ab.out hb);have aG:=qK (qT HB.out hb);clear ai ar aw aa ab HB;have ai:=an;have ar:=ao;have aw:=am;have aa:=aq;have ab:=au;have HB:=aG;clear an ao am aq au aG;(try clear hb)))
           go_roundg k1
           case measure=>have:=cS.out;omega
           case rel=>exact ⟨(wrap64 (al + 1)),(by rfl),H',⟨by have:=cS.out;omega⟩,⟨Kd.V_mono ai.out (fun _ hk=>⟨hk.1.2.1,hk.1.2.2⟩)⟩,⟨aa.out⟩,⟨ab.out⟩,⟨HB.out⟩⟩
         ·rw [if_neg c61] at H;exact absurd H (by simp)
        ·rw [if_neg c60] at H;exact absurd H (by simp)
       ·rw [if_neg c59] at H;exact absurd H (by simp)
      ·rw [if_neg c58] at H;exact absurd H (by simp)
     ·rw [if_neg c57] at H;have ez:decide (al < (ap.length:Int))=false:=decide_eq_false c57;clear c57;simp only [Option.some.injEq,Prod.mk.injEq] at H;obtain ⟨rfl,rfl⟩:=H;go_wp2
      go_ret2
      exact ⟨_,by rfl,by first|exact Kd.R_nil _ _ _ _ _|exact Kd.N_nil _ _ _ _ _|exact Kd.V_nil _ _ _ _ _|exact Kd.Q_nil _ _ _ _ _|exact Kd.S_nil _ _ _ _ _,HB.out⟩
  ·replace c46:=Bool.eq_false_iff.mpr c46;subst c46;have H1:((some (([]:List Int):List Int)).bind fun bl=>(if bl.length + l3.length < 17592186044416 then ((some (bl ++ l3:List Int)).bind fun ba=>((some (([0]:List Int):List Int)).bind fun aT=>(if ba.length + aT.length < 17592186044416 then ((spec_l10Map.f k ag ah ae af (wrap64 (a2 + 1)) (ba ++ aT)).bind fun aK=>(some (aK.1,aK.2))) else (none)))) else (none)))=some (r1,r2):=by rw [if_neg (show ¬ (false=true) by decide)] at H;exact H
   clear H;have H:=H1;clear H1;obtain ⟨bl,cm⟩:∃ y_:List Int,y_=(([]:List Int)):=⟨_,rfl⟩;replace H:(if bl.length + l3.length < 17592186044416 then ((some (bl ++ l3:List Int)).bind fun ba=>((some (([0]:List Int):List Int)).bind fun aT=>(if ba.length + aT.length < 17592186044416 then ((spec_l10Map.f k ag ah ae af (wrap64 (a2 + 1)) (ba ++ aT)).bind fun aK=>(some (aK.1,aK.2))) else (none)))) else (none))=some (r1,r2):=by first|(rw [cm];with_reducible exact H)|(have bm:=(Option.bind_some _ _).symm.trans H;rw [cm];with_reducible exact bm)|(have bm:=(Option.bind_some _ _).symm.trans H;with_reducible exact bm)|with_reducible exact H|(rw [cm];exact H)|exact H
   have cI:=qK cm;clear cm;by_cases c108:bl.length + l3.length < 17592186044416
   ·rw [if_pos c108] at H;have cA:=qK c108;clear c108;obtain ⟨ba,cn⟩:∃ y_:List Int,y_=(bl ++ l3):=⟨_,rfl⟩;replace H:((some (([0]:List Int):List Int)).bind fun aT=>(if ba.length + aT.length < 17592186044416 then ((spec_l10Map.f k ag ah ae af (wrap64 (a2 + 1)) (ba ++ aT)).bind fun aK=>(some (aK.1,aK.2))) else (none)))=some (r1,r2):=by first|(rw [cn];with_reducible exact H)|(have bm:=(Option.bind_some _ _).symm.trans H;rw [cn];with_reducible exact bm)|(have bm:=(Option.bind_some _ _).symm.trans H;with_reducible exact bm)|with_reducible exact H|(rw [cn];exact H)|exact H
    have dj:=qK cn;clear cn;obtain ⟨aT,co⟩:∃ y_:List Int,y_=(([0]:List Int)):=⟨_,rfl⟩;replace H:(if ba.length + aT.length < 17592186044416 then ((spec_l10Map.f k ag ah ae af (wrap64 (a2 + 1)) (ba ++ aT)).bind fun aK=>(some (aK.1,aK.2))) else (none))=some (r1,r2):=by first|(rw [co];with_reducible exact H)|(have bm:=(Option.bind_some _ _).symm.trans H;rw [co];with_reducible exact bm)|(have bm:=(Option.bind_some _ _).symm.trans H;with_reducible exact bm)|with_reducible exact H|(rw [co];exact H)|exact H
    have bU:=qK co;clear co;by_cases c109:ba.length + aT.length < 17592186044416
    ·rw [if_pos c109] at H;have ek:=qK c109;clear c109;obtain ⟨el,cp⟩:∃ y_:List Int,y_=(ba ++ aT):=⟨_,rfl⟩;replace H:((spec_l10Map.f k ag ah ae af (wrap64 (a2 + 1)) el).bind fun aK=>(some (aK.1,aK.2)))=some (r1,r2):=by first|(rw [cp];with_reducible exact H)|(have bm:=(Option.bind_some _ _).symm.trans H;rw [cp];with_reducible exact bm)|(have bm:=(Option.bind_some _ _).symm.trans H;with_reducible exact bm)|with_reducible exact H|(rw [cp];exact H)|exact H
     have eZ:=qK cp;clear cp;replace H:=Option.bind_eq_some_iff.mp H;obtain ⟨⟨fa,fb⟩,ec,H⟩:=H;replace H:(some (fa,fb))=some (r1,r2):=H;have gv:=qK ec;clear ec;simp only [Option.some.injEq,Prod.mk.injEq] at H;obtain ⟨rfl,rfl⟩:=H;go_enter Try.func149,Try.ntmps149
     try go_wp2_with (first|((with_reducible refine gate_dst (N:=4) rfl ?_);refine box_event ?hg (N:=4) ?hd (cs:=#[.slice aH ag.length aC,.slice aD ah.length aE]) (t:=32) ?hr ?_;(case hd=>rfl);(case hg=>rfl);(case hr=>(go_simp;try rfl));intro ac hg hD hbox hb;have an:=qK (qT HB.out hb);have ao:=qK (hbox);have am:=qK ((by rw [hg];exact (qZ HB.out):w.heap.size≤ac));have aq:=am;clear HB;have HB:=an;have aa:=ao;have dO:=am;have aW:=aq;clear an ao am aq;clear hb hbox hg)|((with_reducible refine gate_dst (N:=5) rfl ?_);refine box_event ?hg (N:=5) ?hd (cs:=#[.slice aM ae.length aI,.slice aN af.length aJ]) (t:=32) ?hr ?_;(case hd=>rfl);(case hg=>rfl);(case hr=>(go_simp;try rfl));intro ad hg fc hbox hb;have an:=qK (qB (g:=ac) (o:=_) aa.out hb);have ao:=qK (qT HB.out hb);have am:=qK (hbox);have aq:=qK ((by rw [hg];exact (qZ HB.out):w.heap.size≤ad));have au:=aq;have aG:=qK ((by rw [hg];exact Nat.ne_of_lt (blk_lt (g:=ac) (o:=_) aa.out):ac ≠ ad));have bG:=qK aG.out.symm;clear aa HB;have aa:=an;have HB:=ao;have ab:=am;have dP:=aq;have aX:=au;have ay:=aG;have az:=bG;clear an ao am aq au aG bG hb hbox hg;have gw:=az.out;have gx:=ay.out;have fd:fc.cell? ⟨ad,0,none⟩=some (.slice aM ae.length aI):=(qC ab.out 0).trans rfl;have fe:fc.cell? ⟨ad,1,none⟩=some (.slice aN af.length aJ):=(qC ab.out 1).trans rfl;have ff:=qF ab.out 0;have fg:=qF ab.out 1)|((with_reducible refine gate_callee (f:=140) rfl ?_);refine goesL_ (some 57) rfl rfl Try.func140 (by kernel_rfl) rfl #[.agg #[.slice aM ae.length aI,.slice aN af.length aJ]] rfl (by (try simp only [mT,mC,mN]);first|done|rfl|(simp only [lD,lT];rfl)) ?_;(with_reducible refine (spec_l10Vars.calls k _ _ ae _ _ af bs _ ?side1 ?side2 ?side3 ?side4 gS.out).mono ?_);(case side1=>exact (cB bq.out HB.out));(case side2=>exact bE.out);(case side3=>exact (cB br.out HB.out));(case side4=>exact bF.out);rintro e cq ⟨ge,rfl,ho0,hb⟩;refine ⟨_,rfl,?_⟩;have an:=qK (Kd.V_lower (Kd.V_mono (ok':=fun k_=>k_ ≠ ac∧k_ ≠ ad) ho0 (fun k_ hk_=>⟨(Kd.freshB (g:=ac) (o:=_) aa.out k_ hk_),(Kd.freshB (g:=ad) (o:=_) ab.out k_ hk_)⟩)) (qZ HB.out));have ao:=qK (qB (g:=ac) (o:=_) aa.out hb);have am:=qK (qB (g:=ad) (o:=_) ab.out hb);have aq:=qK (qT HB.out hb);clear aa ab HB;have ak:=an;have aa:=ao;have ab:=am;have HB:=aq;clear an ao am aq;(try clear hb);(try clear ho0);obtain ⟨cJ,cK,fh⟩:=Kd.V_slice ak.out;subst fh)|((with_reducible refine gate_callee (f:=82) rfl ?_);refine goesL_ (some 59) rfl rfl Try.func82 (by kernel_rfl) rfl #[.slice cJ bs.length cK,.int .i64 a2] rfl (by (try simp only [mT,mC,mN]);first|done|rfl|(simp only [lD,lT];rfl)) ?_;(with_reducible refine (spec_l1Has.calls k _ _ bs a2 false _ ?side1 ?side2 gT.out).mono ?_);(case side1=>exact (Kd.V_reads' ak.out).2.2);(case side2=>exact (Kd.V_reads' ak.out).2.1);rintro e w' ⟨rfl,⟨nd,rfl⟩⟩;refine ⟨_,rfl,?_⟩))
     (try (rw [drewN_self cq];generalize hq_:World.drewN cq _=cq;have an:Aside0 (Kd.V (Kd.int .i64) 3 cq w.heap.size (fun k_=>k_ ≠ ac∧k_ ≠ ad) (.slice cJ bs.length cK) bs):=⟨by rw [← hq_];exact ak.out⟩;have ao:Aside0 (cq.heap[ac]?=some (.cells #[.slice aH ag.length aC,.slice aD ah.length aE] 32 (0,0))):=⟨by rw [← hq_];exact aa.out⟩;have am:Aside0 (cq.heap[ad]?=some (.cells #[.slice aM ae.length aI,.slice aN af.length aJ] 32 (0,0))):=⟨by rw [← hq_];exact ab.out⟩;have aq:Aside0 (Below w.heap.size w cq):=⟨by rw [← hq_];exact (by repeat (with_reducible first|exact HB.out|apply qA|apply qD|apply qO|refine qS ?_ aW.out|refine qS ?_ aX.out))⟩;clear ak aa ab HB hq_;have ak:=an;have aa:=ao;have ab:=am;have HB:=aq;clear an ao am aq));have an:=qK (Kd.V_drew ak.out);have ao:=qK (qW aa.out);have am:=qK (qW ab.out);have aq:=qK (qO HB.out);clear ak aa ab HB;have ak:=an;have aa:=ao;have ab:=am;have HB:=aq;clear an ao am aq;refine start_ (n:=14) (S:=fun w'=>w'.cell? ⟨ac,0,none⟩=some (.slice aH ag.length aC)∧w'.cell? ⟨ac,1,none⟩=some (.slice aD ah.length aE)∧w'.cell? ⟨ad,0,none⟩=some (.slice aM ae.length aI)∧w'.cell? ⟨ad,1,none⟩=some (.slice aN af.length aJ)) (ds:=[]) #[Z,Z,Z,Z,Z,Z,Z,Z,Z,Z,Z,Z,Z,Z] (by kernel_rfl) rfl rfl ⟨(qC aa.out 0).trans rfl,(qC aa.out 1).trans rfl,(qC ab.out 0).trans rfl,(qC ab.out 1).trans rfl⟩ (fun hHeld=>?_);refine with_tabW spec_l10Map.tab16 spec_l10Map.bits16 (fun HT_ HW_=>?_);generalize cq.drew=w117 at ak aa ab HB hHeld ⊢
     refine pure_ (i:=2) (N:=some 63) (v:=?_) (a':=?_) #[Z,Z,Y,Z,Z,Z,Z,Z,Z,Z,Z,Z,Z,Z] rfl rfl (any_of HT_.out (by kernel_rfl)) (fun _ _ _ h=>h) (Or.inl ⟨by rfl,?_⟩) ?_ ?_;rotate_left
     ·intro w';go_simp;with_reducible rfl
     rotate_left
     ·simp only [Act.put,sIb,sZ,sS,i64_w,i32_w];rfl
     refine pure_ (i:=3) (N:=some 64) (v:=?_) (a':=?_) #[Z,Z,Y,Y,Z,Z,Z,Z,Z,Z,Z,Z,Z,Z] rfl rfl (any_of HT_.out (by kernel_rfl)) (fun _ _ _ h=>h) (Or.inl ⟨by rfl,?_⟩) ?_ ?_;rotate_left
     ·intro w';go_simp;with_reducible rfl
     rotate_left
     ·simp only [Act.put,sIb,sZ,sS,i64_w,i32_w];rfl
     refine pure_ (i:=5) (N:=some 66) (v:=?_) (a':=?_) #[Z,Z,Y,Y,Z,Y,Z,Z,Z,Z,Z,Z,Z,Z] rfl rfl (any_of HT_.out (by kernel_rfl)) (fun _ _ _ h=>h) (Or.inl ⟨by rfl,?_⟩) ?_ ?_;rotate_left
     ·intro w';go_simp;with_reducible rfl
     rotate_left
     ·simp only [Act.put,sIb,sZ,sS,i64_w,i32_w];rfl
     refine take_ (i:=0) (N:=some 61) (v:=?_) (a':=?_) #[Y,Z,Y,Y,Z,Y,Z,Z,Z,Z,Z,Z,Z,Z] rfl rfl (take_ofW HT_.out HW_.out (by kernel_rfl)) (fun _ _ _ h=>h) (Or.inl ⟨by rfl,?_⟩) hHeld ?_ ?_;rotate_left
     ·rintro w' ⟨s0,s1,s2,s3⟩;go_simp;with_reducible rfl
     rotate_left
     ·simp only [Act.put,sIb,sZ,sS,i64_w,i32_w];rfl
     refine take_ (i:=1) (N:=some 62) (v:=?_) (a':=?_) #[Y,Y,Y,Y,Z,Y,Z,Z,Z,Z,Z,Z,Z,Z] rfl rfl (take_ofW HT_.out HW_.out (by kernel_rfl)) (fun _ _ _ h=>h) (Or.inl ⟨by rfl,?_⟩) hHeld ?_ ?_;rotate_left
     ·rintro w' ⟨s0,s1,s2,s3⟩;go_simp;with_reducible rfl
     rotate_left
     ·simp only [Act.put,sIb,sZ,sS,i64_w,i32_w];rfl
     refine join_ (σ:=Value × Value × Value) 6 #[Y,Y,Y,Y,Y,Y,Y,Y,Z,Z,Z,Z,Z,Z] (fun s_=>[(65,s_.1),(67,s_.2.1),(68,s_.2.2)]) (fun s_ w'=>(w'.cell? ⟨ac,0,none⟩=some (.slice aH ag.length aC)∧w'.cell? ⟨ac,1,none⟩=some (.slice aD ah.length aE)∧w'.cell? ⟨ad,0,none⟩=some (.slice aM ae.length aI)∧w'.cell? ⟨ad,1,none⟩=some (.slice aN af.length aJ))∧(Kd.V (Kd.int .i64) 3 w' w.heap.size (fun k_=>some k_ ≠ (s_.2.1:Value).ownBlock∧some k_ ≠ (s_.2.2:Value).ownBlock∧k_ ≠ ac∧k_ ≠ ad) (.slice cJ bs.length cK) bs)∧(Kd.R (Kd.int .i64) 3 w' w.heap.size (fun k_=>some k_ ≠ (s_.2.2:Value).ownBlock) s_.2.1 ba)∧(Kd.R (Kd.int .i64) 3 w' w.heap.size (fun k_=>some k_ ≠ (s_.2.1:Value).ownBlock) s_.2.2 aT)∧(w'.heap[ac]?=some (.cells #[.slice aH ag.length aC,.slice aD ah.length aE] 32 (0,0)))∧(w'.heap[ad]?=some (.cells #[.slice aM ae.length aI,.slice aN af.length aJ] 32 (0,0)))∧(Below w.heap.size w w')) ?_ ?_;rotate_left
     ·intro hCont;refine two_ (i:=4) (j:=7) (Ni:=some 65) (Nj:=some 68) #[Y,Y,Y,Y,Y,Y,Z,Z,Z,Z,Z,Z,Z,Z] #[Y,Y,Y,Y,Z,Y,Z,Y,Z,Z,Z,Z,Z,Z] rfl rfl rfl rfl (two_of HT_.out (by kernel_rfl)) (by decide) (by decide) (fun K hK=>?_) (fun K hK=>?_)
      ·skip
       refine Kd.R_lit_step (Kd.int .i64) _ 3 ?hg (N:=65) ?hd (xs:=([]:List Int)) (inner:=[]) (ok:=fun _=>True) (okp:=fun _=>True) ?hr ?hp (fun _ hk=>hk) trivial (Below.refl _ _) (Nat.le_refl _) (by simp) ?_;(case hd=>rfl);(case hg=>rfl);(case hr=>(go_simp;try rfl));(case hp=>exact (Reps.none _ _));intro cr gy bk hb hg_ hnew_;clear hg_ hnew_;(first|rw [← cI.out] at bk|(simp only [Int.reduceToNat] at bk;rw [← cI.out] at bk));have an:=qK (Kd.V_elder' ak.out (Kd.R_base bk) hb);have ao:=qK (Kd.R_lower bk (qZ HB.out));have am:=qK (qB (g:=ac) (o:=_) aa.out hb);have aq:=qK (qB (g:=ad) (o:=_) ab.out hb);have au:=qK (qT HB.out hb);clear ak aa ab HB;have ak:=an;have aZ:=ao;have aa:=am;have ab:=aq;have HB:=au;clear an ao am aq au hb bk;refine hK.out _ _ ⟨(qC aa.out 0).trans rfl,(qC aa.out 1).trans rfl,(qC ab.out 0).trans rfl,(qC ab.out 1).trans rfl⟩ (fun hHeld=>?_);clear hK K;refine norm_ (a':=?_) ?_ ?_;rotate_left
       ·show Act.put _ (some 65) _=_
        simp only [Act.put,sIb,sZ,sS,i64_w,i32_w];rfl
       refine two_ (i:=6) (j:=7) (Ni:=some 67) (Nj:=some 68) #[Y,Y,Y,Y,Y,Y,Y,Z,Z,Z,Z,Z,Z,Z] #[Y,Y,Y,Y,Y,Y,Z,Y,Z,Z,Z,Z,Z,Z] rfl rfl rfl rfl (two_of HT_.out (by kernel_rfl)) (by decide) (by decide) (fun K hK=>?_) (fun K hK=>?_)
       ·skip
        refine Kd.R_append_rows_step (Kd.int .i64) (w0:=w) w.heap.size (by rfl) (.tmp 65) (.tmp 66) 22 3 (.int .i64 0) 8 rfl Try.underlying22 info3 rfl (by decide) (by omega) cr bl l3 _ _ _ (fun _=>True) (fun _=>False) rfl rfl ?aO ?aR (fun _ _ h=>h) (fun _ h=>h.elim) ?aF ?aB ?aS ?aL ?_;(case aR=>repeat (first|exact (cB cR.out HB.out)|(with_reducible first|refine cL ?_ _|refine cN ?_ _|refine cW ?_)));(case aB=>exact HB.out);(case aF=>exact (fun _ _=>trivial));(case aO=>exact aZ.out);(case aS=>exact (qZ HB.out));(case aL=>have:=cA.out;omega);intro bQ fi ho hb hg hat;rw [← dj.out] at ho;have an:=qK (blk_grown (g:=ac) (o:=_) aa.out hg (Kd.R_ne aZ.out aa.out (by decide)));have ao:=qK (blk_grown (g:=ad) (o:=_) ab.out hg (Kd.R_ne aZ.out ab.out (by decide)));have am:=qK (Kd.V_afterv (ok:=(fun k_=>k_ ≠ ac∧k_ ≠ ad)) ak.out hg hat);have aq:=qK (hb);have au:=qK (ho);clear aa ab ak HB aZ;have aa:=an;have ab:=ao;have ak:=am;have HB:=aq;have bi:=au;clear an ao am aq au ho hb hg hat;refine hK.out _ _ ⟨(qC aa.out 0).trans rfl,(qC aa.out 1).trans rfl,(qC ab.out 0).trans rfl,(qC ab.out 1).trans rfl⟩ (fun hHeld=>?_);clear hK K;refine norm_ (a':=?_) ?_ ?_;rotate_left
        ·show Act.put _ (some 67) _=_
         simp only [Act.put,sIb,sZ,sS,i64_w,i32_w];rfl
        refine one_ (i:=7) (N:=some 68) #[Y,Y,Y,Y,Y,Y,Y,Y,Z,Z,Z,Z,Z,Z] rfl rfl (one_of HT_.out (by kernel_rfl)) (by decide) (fun K hK=>?_);refine Kd.R_lit_step (Kd.int .i64) _ 3 ?hg (N:=68) ?hd (xs:=([0]:List Int)) (inner:=[.int .i64 0]) (ok:=fun _=>True) (okp:=fun _=>True) ?hr ?hp (fun _ hk=>hk) trivial (Below.refl _ _) (Nat.le_refl _) (by simp) ?_;(case hd=>rfl);(case hg=>rfl);(case hr=>(go_simp;try rfl));(case hp=>exact (Reps.one (show Kd.M (Kd.int .i64) _ _ _ 0 [.int .i64 0] from rfl) (Reps.none _ _)));intro bD hE bN hb hg_ hnew_;clear hg_ hnew_;(first|rw [← bU.out] at bN|(simp only [Int.reduceToNat] at bN;rw [← bU.out] at bN));have an:=qK (Kd.V_elder' ak.out (Kd.R_base bN) hb);have ao:=qK (Kd.R_elder' bi.out (Kd.R_base bN) hb);have am:=qK (Kd.R_lower (Kd.R_new' bN (Kd.R_lt bi.out)) (qZ HB.out));have aq:=qK (qB (g:=ac) (o:=_) aa.out hb);have au:=qK (qB (g:=ad) (o:=_) ab.out hb);have aG:=qK (qT HB.out hb);clear ak bi aa ab HB;have ak:=an;have bi:=ao;have ax:=am;have aa:=aq;have ab:=au;have HB:=aG;clear an ao am aq au aG hb bN;refine hK.out _ _ ⟨(qC aa.out 0).trans rfl,(qC aa.out 1).trans rfl,(qC ab.out 0).trans rfl,(qC ab.out 1).trans rfl⟩ (fun hHeld=>?_);clear hK K;refine norm_ (a':=?_) ?_ ?_;rotate_left
        ·show Act.put _ (some 68) _=_
         simp only [Act.put,sIb,sZ,sS,i64_w,i32_w];rfl
        exact norm_ (by simp only [putAll,Act.put,List.setIfInBounds_toArray,List.set_cons_zero,List.set_cons_succ]) (hCont (cr,bQ,bD) _ ⟨hHeld,(Kd.V_mono ak.out (fun _ hk=>⟨hk.1.2,⟨hk.2,⟨hk.1.1.1,hk.1.1.2⟩⟩⟩)),(Kd.R_mono bi.out (fun _ hk=>hk.2)),(Kd.R_mono ax.out (fun _ hk=>hk.2)),aa.out,ab.out,HB.out⟩)
       ·skip
        refine Kd.R_lit_step (Kd.int .i64) _ 3 ?hg (N:=68) ?hd (xs:=([0]:List Int)) (inner:=[.int .i64 0]) (ok:=fun _=>True) (okp:=fun _=>True) ?hr ?hp (fun _ hk=>hk) trivial (Below.refl _ _) (Nat.le_refl _) (by simp) ?_;(case hd=>rfl);(case hg=>rfl);(case hr=>(go_simp;try rfl));(case hp=>exact (Reps.one (show Kd.M (Kd.int .i64) _ _ _ 0 [.int .i64 0] from rfl) (Reps.none _ _)));intro bD fi be hb hg_ hnew_;clear hg_ hnew_;(first|rw [← bU.out] at be|(simp only [Int.reduceToNat] at be;rw [← bU.out] at be));have an:=qK (Kd.V_elder' ak.out (Kd.R_base be) hb);have ao:=qK (Kd.R_elder' aZ.out (Kd.R_base be) hb);have am:=qK (Kd.R_lower (Kd.R_new' be (Kd.R_lt aZ.out)) (qZ HB.out));have aq:=qK (qB (g:=ac) (o:=_) aa.out hb);have au:=qK (qB (g:=ad) (o:=_) ab.out hb);have aG:=qK (qT HB.out hb);clear ak aZ aa ab HB;have ak:=an;have aZ:=ao;have ax:=am;have aa:=aq;have ab:=au;have HB:=aG;clear an ao am aq au aG hb be;refine hK.out _ _ ⟨(qC aa.out 0).trans rfl,(qC aa.out 1).trans rfl,(qC ab.out 0).trans rfl,(qC ab.out 1).trans rfl⟩ (fun hHeld=>?_);clear hK K;refine norm_ (a':=?_) ?_ ?_;rotate_left
        ·show Act.put _ (some 68) _=_
         simp only [Act.put,sIb,sZ,sS,i64_w,i32_w];rfl
        refine one_ (i:=6) (N:=some 67) #[Y,Y,Y,Y,Y,Y,Y,Y,Z,Z,Z,Z,Z,Z] rfl rfl (one_of HT_.out (by kernel_rfl)) (by decide) (fun K hK=>?_);refine Kd.R_append_rows_step (Kd.int .i64) (w0:=w) w.heap.size (by rfl) (.tmp 65) (.tmp 66) 22 3 (.int .i64 0) 8 rfl Try.underlying22 info3 rfl (by decide) (by omega) cr bl l3 _ _ _ (fun k_=>some k_ ≠ (bD:Value).ownBlock) (fun _=>False) rfl rfl ?aO ?aR (fun _ _ h=>h) (fun _ h=>h.elim) ?aF ?aB ?aS ?aL ?_;(case aR=>repeat (first|exact (cB cR.out HB.out)|(with_reducible first|refine cL ?_ _|refine cN ?_ _|refine cW ?_)));(case aB=>exact HB.out);(case aF=>exact (fun k_ hk=>Kd.fresh' (Kd.R_lt ax.out) k_ hk));(case aO=>exact (Kd.R_mono aZ.out (fun _ hk=>hk.2)));(case aS=>exact (qZ HB.out));(case aL=>have:=cA.out;omega);intro bQ gz ho hb hg hat;rw [← dj.out] at ho;have an:=qK (blk_grown (g:=ac) (o:=_) aa.out hg (Kd.R_ne aZ.out aa.out (by decide)));have ao:=qK (blk_grown (g:=ad) (o:=_) ab.out hg (Kd.R_ne aZ.out ab.out (by decide)));have am:=qK (Kd.V_afterv (ok:=(fun k_=>some k_ ≠ (bD:Value).ownBlock∧k_ ≠ ac∧k_ ≠ ad)) (Kd.V_mono ak.out (fun _ hk=>⟨⟨hk.2,⟨hk.1.1.1,hk.1.1.2⟩⟩,hk.1.2⟩)) hg hat);have aq:=qK (Kd.R_after (ok:=(fun _=>True)) ax.out hg hat);have au:=qK (hb);have aG:=qK (ho);clear aa ab ak ax HB aZ;have aa:=an;have ab:=ao;have ak:=am;have ax:=aq;have HB:=au;have bi:=aG;clear an ao am aq au aG ho hb hg hat;refine hK.out _ _ ⟨(qC aa.out 0).trans rfl,(qC aa.out 1).trans rfl,(qC ab.out 0).trans rfl,(qC ab.out 1).trans rfl⟩ (fun hHeld=>?_);clear hK K;refine norm_ (a':=?_) ?_ ?_;rotate_left
        ·show Act.put _ (some 67) _=_
         simp only [Act.put,sIb,sZ,sS,i64_w,i32_w];rfl
        exact norm_ (by simp only [putAll,Act.put,List.setIfInBounds_toArray,List.set_cons_zero,List.set_cons_succ]) (hCont (cr,bQ,bD) _ ⟨hHeld,(Kd.V_mono ak.out (fun _ hk=>⟨hk.2,⟨hk.1.1,⟨hk.1.2.1,hk.1.2.2⟩⟩⟩)),bi.out,(Kd.R_mono ax.out (fun _ hk=>hk.2)),aa.out,ab.out,HB.out⟩)
      ·skip
       refine Kd.R_lit_step (Kd.int .i64) _ 3 ?hg (N:=68) ?hd (xs:=([0]:List Int)) (inner:=[.int .i64 0]) (ok:=fun _=>True) (okp:=fun _=>True) ?hr ?hp (fun _ hk=>hk) trivial (Below.refl _ _) (Nat.le_refl _) (by simp) ?_;(case hd=>rfl);(case hg=>rfl);(case hr=>(go_simp;try rfl));(case hp=>exact (Reps.one (show Kd.M (Kd.int .i64) _ _ _ 0 [.int .i64 0] from rfl) (Reps.none _ _)));intro bD gy bk hb hg_ hnew_;clear hg_ hnew_;(first|rw [← bU.out] at bk|(simp only [Int.reduceToNat] at bk;rw [← bU.out] at bk));have an:=qK (Kd.V_elder' ak.out (Kd.R_base bk) hb);have ao:=qK (Kd.R_lower bk (qZ HB.out));have am:=qK (qB (g:=ac) (o:=_) aa.out hb);have aq:=qK (qB (g:=ad) (o:=_) ab.out hb);have au:=qK (qT HB.out hb);clear ak aa ab HB;have ak:=an;have ax:=ao;have aa:=am;have ab:=aq;have HB:=au;clear an ao am aq au hb bk;refine hK.out _ _ ⟨(qC aa.out 0).trans rfl,(qC aa.out 1).trans rfl,(qC ab.out 0).trans rfl,(qC ab.out 1).trans rfl⟩ (fun hHeld=>?_);clear hK K;refine norm_ (a':=?_) ?_ ?_;rotate_left
       ·show Act.put _ (some 68) _=_
        simp only [Act.put,sIb,sZ,sS,i64_w,i32_w];rfl
       refine one_ (i:=4) (N:=some 65) #[Y,Y,Y,Y,Y,Y,Z,Y,Z,Z,Z,Z,Z,Z] rfl rfl (one_of HT_.out (by kernel_rfl)) (by decide) (fun K hK=>?_);refine Kd.R_lit_step (Kd.int .i64) _ 3 ?hg (N:=65) ?hd (xs:=([]:List Int)) (inner:=[]) (ok:=fun _=>True) (okp:=fun _=>True) ?hr ?hp (fun _ hk=>hk) trivial (Below.refl _ _) (Nat.le_refl _) (by simp) ?_;(case hd=>rfl);(case hg=>rfl);(case hr=>(go_simp;try rfl));(case hp=>exact (Reps.none _ _));intro cr fi be hb hg_ hnew_;clear hg_ hnew_;(first|rw [← cI.out] at be|(simp only [Int.reduceToNat] at be;rw [← cI.out] at be));have an:=qK (Kd.V_elder' ak.out (Kd.R_base be) hb);have ao:=qK (Kd.R_elder' ax.out (Kd.R_base be) hb);have am:=qK (Kd.R_lower (Kd.R_new' be (Kd.R_lt ax.out)) (qZ HB.out));have aq:=qK (qB (g:=ac) (o:=_) aa.out hb);have au:=qK (qB (g:=ad) (o:=_) ab.out hb);have aG:=qK (qT HB.out hb);clear ak ax aa ab HB;have ak:=an;have ax:=ao;have aZ:=am;have aa:=aq;have ab:=au;have HB:=aG;clear an ao am aq au aG hb be;refine hK.out _ _ ⟨(qC aa.out 0).trans rfl,(qC aa.out 1).trans rfl,(qC ab.out 0).trans rfl,(qC ab.out 1).trans rfl⟩ (fun hHeld=>?_);clear hK K;refine norm_ (a':=?_) ?_ ?_;rotate_left
       ·show Act.put _ (some 65) _=_
        simp only [Act.put,sIb,sZ,sS,i64_w,i32_w];rfl
       refine one_ (i:=6) (N:=some 67) #[Y,Y,Y,Y,Y,Y,Y,Y,Z,Z,Z,Z,Z,Z] rfl rfl (one_of HT_.out (by kernel_rfl)) (by decide) (fun K hK=>?_);refine Kd.R_append_rows_step (Kd.int .i64) (w0:=w) w.heap.size (by rfl) (.tmp 65) (.tmp 66) 22 3 (.int .i64 0) 8 rfl Try.underlying22 info3 rfl (by decide) (by omega) cr bl l3 _ _ _ (fun k_=>some k_ ≠ (bD:Value).ownBlock) (fun _=>False) rfl rfl ?aO ?aR (fun _ _ h=>h) (fun _ h=>h.elim) ?aF ?aB ?aS ?aL ?_;(case aR=>repeat (first|exact (cB cR.out HB.out)|(with_reducible first|refine cL ?_ _|refine cN ?_ _|refine cW ?_)));(case aB=>exact HB.out);(case aF=>exact (fun k_ hk=>Kd.fresh' (Kd.R_lt ax.out) k_ hk));(case aO=>exact (Kd.R_mono aZ.out (fun _ hk=>hk.2)));(case aS=>exact (qZ HB.out));(case aL=>have:=cA.out;omega);intro bQ gz ho hb hg hat;rw [← dj.out] at ho;have an:=qK (blk_grown (g:=ac) (o:=_) aa.out hg (Kd.R_ne aZ.out aa.out (by decide)));have ao:=qK (blk_grown (g:=ad) (o:=_) ab.out hg (Kd.R_ne aZ.out ab.out (by decide)));have am:=qK (Kd.V_afterv (ok:=(fun k_=>some k_ ≠ (bD:Value).ownBlock∧k_ ≠ ac∧k_ ≠ ad)) (Kd.V_mono ak.out (fun _ hk=>⟨⟨hk.1.2,⟨hk.1.1.1,hk.1.1.2⟩⟩,hk.2⟩)) hg hat);have aq:=qK (Kd.R_after (ok:=(fun _=>True)) ax.out hg hat);have au:=qK (hb);have aG:=qK (ho);clear aa ab ak ax HB aZ;have aa:=an;have ab:=ao;have ak:=am;have ax:=aq;have HB:=au;have bi:=aG;clear an ao am aq au aG ho hb hg hat;refine hK.out _ _ ⟨(qC aa.out 0).trans rfl,(qC aa.out 1).trans rfl,(qC ab.out 0).trans rfl,(qC ab.out 1).trans rfl⟩ (fun hHeld=>?_);clear hK K;refine norm_ (a':=?_) ?_ ?_;rotate_left
       ·show Act.put _ (some 67) _=_
        simp only [Act.put,sIb,sZ,sS,i64_w,i32_w];rfl
       exact norm_ (by simp only [putAll,Act.put,List.setIfInBounds_toArray,List.set_cons_zero,List.set_cons_succ]) (hCont (cr,bQ,bD) _ ⟨hHeld,(Kd.V_mono ak.out (fun _ hk=>⟨hk.2,⟨hk.1.1,⟨hk.1.2.1,hk.1.2.2⟩⟩⟩)),bi.out,(Kd.R_mono ax.out (fun _ hk=>hk.2)),aa.out,ab.out,HB.out⟩)
     rintro ⟨cr,bQ,bD⟩ bR ⟨hS_,hi,hj,hl,hm,hn,hq⟩;have an:Aside0 (Kd.V (Kd.int .i64) 3 bR w.heap.size (fun k_=>some k_ ≠ (bQ:Value).ownBlock∧some k_ ≠ (bD:Value).ownBlock∧k_ ≠ ac∧k_ ≠ ad) (.slice cJ bs.length cK) bs):=⟨hi⟩;have ao:Aside0 (Kd.R (Kd.int .i64) 3 bR w.heap.size (fun k_=>some k_ ≠ (bD:Value).ownBlock) bQ ba):=⟨hj⟩;have am:Aside0 (Kd.R (Kd.int .i64) 3 bR w.heap.size (fun k_=>some k_ ≠ (bQ:Value).ownBlock) bD aT):=⟨hl⟩;have aq:Aside0 (bR.heap[ac]?=some (.cells #[.slice aH ag.length aC,.slice aD ah.length aE] 32 (0,0))):=⟨hm⟩;have au:Aside0 (bR.heap[ad]?=some (.cells #[.slice aM ae.length aI,.slice aN af.length aJ] 32 (0,0))):=⟨hn⟩;have aG:Aside0 (Below w.heap.size w bR):=⟨hq⟩;clear ak aa ab HB hi hj hl hm hn hq;have ak:=an;have bi:=ao;have ax:=am;have aa:=aq;have ab:=au;have HB:=aG;clear an ao am aq au aG;have hHeld:bR.cell? ⟨ac,0,none⟩=some (.slice aH ag.length aC)∧bR.cell? ⟨ac,1,none⟩=some (.slice aD ah.length aE)∧bR.cell? ⟨ad,0,none⟩=some (.slice aM ae.length aI)∧bR.cell? ⟨ad,1,none⟩=some (.slice aN af.length aJ):=hS_;obtain ⟨ed,ee,fj⟩:=Kd.R_slice ax.out;subst fj;refine norm_ (a':=?_) ?_ ?_;rotate_left
     ·simp only [putAll,Act.put,List.setIfInBounds_toArray,List.set_cons_zero,List.set_cons_succ];rfl
     refine one_ (i:=8) (N:=some 69) #[Y,Y,Y,Y,Y,Y,Y,Y,Y,Z,Z,Z,Z,Z] rfl rfl (one_of HT_.out (by kernel_rfl)) (by decide) (fun K hK=>?_);refine Kd.R_append_rows_step (Kd.int .i64) (w0:=w) w.heap.size (by rfl) (.tmp 67) (.tmp 68) 22 3 (.int .i64 0) 8 rfl Try.underlying22 info3 rfl (by decide) (by omega) bQ ba aT _ _ _ (fun k_=>some k_ ≠ (.slice ed aT.length ee:Value).ownBlock) (fun _=>False) rfl rfl ?aO ?aR (fun _ _ h=>h) (fun _ h=>h.elim) ?aF ?aB ?aS ?aL ?_;(case aR=>repeat (first|exact (Kd.R_reads' ax.out).2.2|(with_reducible first|refine cL ?_ _|refine cN ?_ _|refine cW ?_)));(case aB=>exact HB.out);(case aF=>exact (fun k_ hk=>Kd.fresh' (Kd.R_lt ax.out) k_ hk));(case aO=>exact bi.out);(case aS=>exact (qZ HB.out));(case aL=>have:=ek.out;omega);intro hF hG ho hb hg hat;rw [← eZ.out] at ho;have an:=qK (blk_grown (g:=ac) (o:=_) aa.out hg (Kd.R_ne bi.out aa.out (by decide)));have ao:=qK (blk_grown (g:=ad) (o:=_) ab.out hg (Kd.R_ne bi.out ab.out (by decide)));have am:=qK (Kd.V_afterv (ok:=(fun k_=>some k_ ≠ (.slice ed aT.length ee:Value).ownBlock∧k_ ≠ ac∧k_ ≠ ad)) (Kd.V_mono ak.out (fun _ hk=>⟨⟨hk.2.1,⟨hk.2.2.1,hk.2.2.2⟩⟩,hk.1⟩)) hg hat);have aq:=qK (Kd.R_after (ok:=(fun _=>True)) (Kd.R_mono ax.out (fun _ hk=>⟨trivial,hk⟩)) hg hat);have au:=qK (hb);have aG:=qK (ho);clear aa ab ak ax HB bi;have aa:=an;have ab:=ao;have ak:=am;have ax:=aq;have HB:=au;have bO:=aG;clear an ao am aq au aG ho hb hg hat;obtain ⟨fk,fl,fm⟩:=Kd.R_slice bO.out;subst fm;refine hK.out _ _ ⟨(qC aa.out 0).trans rfl,(qC aa.out 1).trans rfl,(qC ab.out 0).trans rfl,(qC ab.out 1).trans rfl⟩ (fun hHeld=>?_);clear hK K;refine norm_ (a':=?_) ?_ ?_;rotate_left
     ·show Act.put _ (some 69) _=_
      simp only [Act.put,sIb,sZ,sS,i64_w,i32_w];rfl
     refine one_ (i:=9) (N:=some 70) #[Y,Y,Y,Y,Y,Y,Y,Y,Y,Y,Z,Z,Z,Z] rfl rfl (one_of HT_.out (by kernel_rfl)) (by decide) (fun K hK=>?_);refine goes_ Try.func149 (by kernel_rfl) rfl #[.agg #[.slice aH ag.length aC,.slice aD ah.length aE],.agg #[.slice aM ae.length aI,.slice aN af.length aJ],.int .i64 (wrap64 (a2 + 1)),.slice fk el.length fl] (by rfl) rfl rfl (by (try simp only [mT,mC,mN]);first|done|rfl|(simp only [lD,lT];rfl)) ?_;with_reducible refine (ih k (by omega) _ _ ag _ _ ah _ _ ae _ _ af (wrap64 (a2 + 1)) _ _ el fa fb _ ?side1 ?side2 ?side3 ?side4 ?side5 ?side6 ?side7 ?side8 ?side9 ?side10 gv.out).mono ?_
     (case side1=>exact (cB bo.out HB.out));(case side2=>exact bt.out);(case side3=>exact (cB bu.out HB.out));(case side4=>exact bv.out);(case side5=>exact (cB bq.out HB.out));(case side6=>exact bE.out);(case side7=>exact (cB br.out HB.out));(case side8=>exact bF.out);(case side9=>exact (Kd.R_reads' bO.out).2.2);(case side10=>exact (Kd.R_reads' bO.out).2.1);rintro e hH ⟨hI,rfl,ho0,hb⟩;refine ⟨_,rfl,?_⟩;have an:=qK (Kd.V_elder' ak.out (Kd.R_base ho0) hb);have ao:=qK (Kd.R_elder' ax.out (Kd.R_base ho0) hb);have am:=qK (Kd.R_elder' bO.out (Kd.R_base ho0) hb);have aq:=qK (Kd.R_lower (Kd.R_new' (Kd.R_new' ho0 (Kd.R_lt ax.out)) (Kd.R_lt bO.out)) (qZ HB.out));have au:=qK (qB (g:=ac) (o:=_) aa.out hb);have aG:=qK (qB (g:=ad) (o:=_) ab.out hb);have bG:=qK (qT HB.out hb);clear ak ax bO aa ab HB;have ak:=an;have ax:=ao;have bO:=am;have fn:=aq;have aa:=au;have ab:=aG;have HB:=bG;clear an ao am aq au aG bG;(try clear hb);(try clear ho0);refine hK.out _ _ ⟨(qC aa.out 0).trans rfl,(qC aa.out 1).trans rfl,(qC ab.out 0).trans rfl,(qC ab.out 1).trans rfl⟩ (fun hHeld=>?_);clear hK K;refine norm_ (a':=?_) ?_ ?_;rotate_left
     ·show Act.put _ (some 70) _=_
      simp only [Act.put,sIb,sZ,sS,i64_w,i32_w];rfl
     refine pure_ (i:=10) (N:=some 71) (v:=?_) (a':=?_) #[Y,Y,Y,Y,Y,Y,Y,Y,Y,Y,Y,Z,Z,Z] rfl rfl (any_of HT_.out (by kernel_rfl)) (fun _ _ _ h=>h) (Or.inl ⟨by rfl,?_⟩) ?_ ?_;rotate_left
     ·intro w';go_simp;with_reducible rfl
     rotate_left
     ·simp only [Act.put,sIb,sZ,sS,i64_w,i32_w];rfl
     refine pure_ (i:=11) (N:=some 72) (v:=?_) (a':=?_) #[Y,Y,Y,Y,Y,Y,Y,Y,Y,Y,Y,Y,Z,Z] rfl rfl (any_of HT_.out (by kernel_rfl)) (fun _ _ _ h=>h) (Or.inl ⟨by rfl,?_⟩) ?_ ?_;rotate_left
     ·intro w';go_simp;with_reducible rfl
     rotate_left
     ·simp only [Act.put,sIb,sZ,sS,i64_w,i32_w];rfl
     refine pure_ (i:=12) (N:=some 8) (v:=?_) (a':=?_) #[Y,Y,Y,Y,Y,Y,Y,Y,Y,Y,Y,Y,Y,Z] rfl rfl (any_of HT_.out (by kernel_rfl)) (fun _ _ _ h=>h) (Or.inl ⟨by rfl,?_⟩) ?_ ?_;rotate_left
     ·intro w';go_simp;with_reducible rfl
     rotate_left
     ·simp only [Act.put,sIb,sZ,sS,i64_w,i32_w];rfl
     refine pure_ (i:=13) (N:=some 9) (v:=?_) (a':=?_) #[Y,Y,Y,Y,Y,Y,Y,Y,Y,Y,Y,Y,Y,Y] rfl rfl (any_of HT_.out (by kernel_rfl)) (fun _ _ _ h=>h) (Or.inl ⟨by rfl,?_⟩) ?_ ?_;rotate_left
     ·intro w';go_simp;with_reducible rfl
     rotate_left
     ·simp only [Act.put,sIb,sZ,sS,i64_w,i32_w];rfl
     refine done_ (done_of HT_.out (by kernel_rfl)) ?_;try go_wp2
     go_ret2
     exact ⟨_,by rfl,Kd.R_mono fn.out (fun _ hk=>trivial),HB.out⟩
    ·rw [if_neg c109] at H;exact absurd H (by simp)
   ·rw [if_neg c108] at H;exact absurd H (by simp)

/-! ### spec_l10Contained: function 99 -/
def spec_l10Contained.f (k:Nat) (l0_0:List Int) (l0_1:List (S97)) (l1_0:List Int) (l1_1:List (S97)):Option (List Int × Bool):=(spec_l10Map.f k l0_0 l0_1 l1_0 l1_1 0 ([]:List Int)).bind fun bt373=>(some (bt373.1,bt373.2))
theorem spec_l10Contained.mono : ∀ a0 a1 a2 a3 k,LeO (spec_l10Contained.f k a0 a1 a2 a3) (spec_l10Contained.f (k + 1) a0 a1 a2 a3):=by
 intro a0 a1 a2 a3 k;unfold spec_l10Contained.f
 repeat' first
   | (with_reducible exact spec_l10Map.mono _ _ _ _ _ _ _)
   | (with_reducible exact LeO.refl _)
   | (with_reducible exact LeO.none _)
   | (with_reducible refine LeO.ite ?_ ?_)
   | (with_reducible refine LeO.bind ?_ (fun _=>?_))
   | exact spec_l10Map.mono _ _ _ _ _ _ _
   | exact LeO.none _
   | refine LeO.ite ?_ ?_
   | refine LeO.bind ?_ (fun _=>?_)
set_option maxHeartbeats 8000000 in
set_option maxRecDepth 100000 in
theorem spec_l10Contained.calls (k:Nat) (ak:Option Addr) (al:Nat) (ad:List Int) (am:Option Addr) (an:Nat) (ae:List (S97)) (ao:Option Addr) (ap:Nat) (af:List Int) (aq:Option Addr) (ar:Nat) (ag:List (S97)) (r1:List Int) (r2:Bool) (w:World) (hr0_0:Kd.C (Kd.int .i64) w ak ad.length ad) (hc0_0:ad.length≤al) (hr0_1:Kd.C k97 w am ae.length ae) (hc0_1:ae.length≤an) (hr1_0:Kd.C (Kd.int .i64) w ao af.length af) (hc1_0:af.length≤ap) (hr1_1:Kd.C k97 w aq ag.length ag) (hc1_1:ag.length≤ar) (h:spec_l10Contained.f k ad ae af ag=some (r1,r2)) :
  Calls Try.prog 99 #[.agg #[.slice ak ad.length al,.slice am ae.length an],.agg #[.slice ao af.length ap,.slice aq ag.length ar]] w fun e w'=>∃ aZ:Value,e=.returned (.tuple #[aZ,.bool r2])∧Kd.R (Kd.int .i64) 3 w' w.heap.size (fun _=>True) aZ r1∧Below w.heap.size w w':=by
 have bh:=Try.underlying32;have az:=qK hr0_0;have aA:=qK hc0_0;clear hr0_0 hc0_0;have aC:=qK hr0_1;have aD:=qK hc0_1;clear hr0_1 hc0_1;have aE:=qK hr1_0;have aG:=qK hc1_0;clear hr1_0 hc1_0;have aH:=qK hr1_1;have aI:=qK hc1_1;clear hr1_1 hc1_1;have HB:=qK (Below.refl w.heap.size w);have H:((spec_l10Map.f k ad ae af ag 0 ([]:List Int)).bind fun aw=>(some (aw.1,aw.2)))=some (r1,r2):=h;clear h;replace H:=Option.bind_eq_some_iff.mp H;obtain ⟨⟨aJ,aK⟩,ba,H⟩:=H;replace H:(some (aJ,aK))=some (r1,r2):=H;have A3:=qK ba;clear ba;simp only [Option.some.injEq,Prod.mk.injEq] at H;obtain ⟨rfl,rfl⟩:=H;go_enter Try.func99,Try.ntmps99
 go_wp2_with (first|((with_reducible refine gate_dst (N:=2) rfl ?_);refine box_event ?hg (N:=2) ?hd (cs:=#[.slice ak ad.length al,.slice am ae.length an]) (t:=32) ?hr ?_;(case hd=>rfl);(case hg=>rfl);(case hr=>(go_simp;try rfl));intro ab hg w4 hbox hb;have ax:=qK (qT HB.out hb);have ay:=qK (hbox);have au:=qK ((by rw [hg];exact (qZ HB.out):w.heap.size≤ab));have av:=au;clear HB;have HB:=ax;have aa:=ay;have bb:=au;have bc:=av;clear ax ay au av;clear hb hbox hg)|((with_reducible refine gate_dst (N:=3) rfl ?_);refine box_event ?hg (N:=3) ?hd (cs:=#[.slice ao af.length ap,.slice aq ag.length ar]) (t:=32) ?hr ?_;(case hd=>rfl);(case hg=>rfl);(case hr=>(go_simp;try rfl));intro ah hg w5 hbox hb;have ax:=qK (qB (g:=ab) (o:=_) aa.out hb);have ay:=qK (qT HB.out hb);have au:=qK (hbox);have av:=qK ((by rw [hg];exact (qZ HB.out):w.heap.size≤ah));have bd:=av;have aN:=qK ((by rw [hg];exact Nat.ne_of_lt (blk_lt (g:=ab) (o:=_) aa.out):ab ≠ ah));have be:=qK aN.out.symm;clear aa HB;have aa:=ax;have HB:=ay;have ac:=au;have bf:=av;have bg:=bd;have ai:=aN;have aj:=be;clear ax ay au av bd aN be hb hbox hg;have bi:=ai.out;have bj:=aj.out;have aP:w5.cell? ⟨ab,0,none⟩=some (.slice ak ad.length al):=(qC aa.out 0).trans rfl;have aQ:w5.cell? ⟨ab,1,none⟩=some (.slice am ae.length an):=(qC aa.out 1).trans rfl;have aT:=qF aa.out 0;have aU:=qF aa.out 1;have aV:w5.cell? ⟨ah,0,none⟩=some (.slice ao af.length ap):=(qC ac.out 0).trans rfl;have aW:w5.cell? ⟨ah,1,none⟩=some (.slice aq ag.length ar):=(qC ac.out 1).trans rfl;have aX:=qF ac.out 0;have aY:=qF ac.out 1)|((with_reducible refine gate_callee (f:=149) rfl ?_);refine goesL_ (some 8) rfl rfl Try.func149 (by kernel_rfl) rfl #[.agg #[.slice ak ad.length al,.slice am ae.length an],.agg #[.slice ao af.length ap,.slice aq ag.length ar],.int .i64 0,.slice none 0 0] rfl (by (try simp only [mT,mC,mN]);first|done|rfl|(simp only [lD,lT];rfl)) ?_;(refine (spec_l10Map.calls k _ _ ad _ _ ae _ _ af _ _ ag 0 _ _ ([]:List Int) aJ aK _ ?side1 ?side2 ?side3 ?side4 ?side5 ?side6 ?side7 ?side8 ?side9 ?side10 A3.out).mono ?_);(case side1=>exact (cB az.out HB.out));(case side2=>exact aA.out);(case side3=>exact (cB aC.out HB.out));(case side4=>exact aD.out);(case side5=>exact (cB aE.out HB.out));(case side6=>exact aG.out);(case side7=>exact (cB aH.out HB.out));(case side8=>exact aI.out);(case side9=>exact Kd.C_nil _ _);(case side10=>exact Nat.le_refl _);rintro e w9 ⟨bk,rfl,ho0,hb⟩;refine ⟨_,rfl,?_⟩;have ax:=qK (Kd.R_lower ho0 (qZ HB.out));have ay:=qK (qB (g:=ab) (o:=_) aa.out hb);have au:=qK (qB (g:=ah) (o:=_) ac.out hb);have av:=qK (qT HB.out hb);clear aa ac HB;have aM:=ax;have aa:=ay;have ac:=au;have HB:=av;clear ax ay au av;(try clear hb);(try clear ho0)))
 go_ret2
 exact ⟨_,by rfl,aM.out,HB.out⟩

/-! ### spec_l10Same: function 96 -/
def spec_l10Same.f (k:Nat) (l0_0:List Int) (l0_1:List (S97)) (l1_0:List Int) (l1_1:List (S97)):Option (Bool):=(spec_l10Contained.f k l0_0 l0_1 l1_0 l1_1).bind fun bt379=>((spec_l10Contained.f k l1_0 l1_1 l0_0 l0_1).bind fun bt383=>(if bt379.2=true then (some bt383.2) else (some false)))
theorem spec_l10Same.mono : ∀ a0 a1 a2 a3 k,LeO (spec_l10Same.f k a0 a1 a2 a3) (spec_l10Same.f (k + 1) a0 a1 a2 a3):=by
 intro a0 a1 a2 a3 k;unfold spec_l10Same.f
 repeat' first
   | (with_reducible exact spec_l10Contained.mono _ _ _ _ _)
   | (with_reducible exact LeO.refl _)
   | (with_reducible exact LeO.none _)
   | (with_reducible refine LeO.ite ?_ ?_)
   | (with_reducible refine LeO.bind ?_ (fun _=>?_))
   | exact spec_l10Contained.mono _ _ _ _ _
   | exact LeO.none _
   | refine LeO.ite ?_ ?_
   | refine LeO.bind ?_ (fun _=>?_)
set_option maxHeartbeats 8000000 in
set_option maxRecDepth 100000 in
theorem spec_l10Same.calls (k:Nat) (al:Option Addr) (am:Nat) (ae:List Int) (an:Option Addr) (ao:Nat) (af:List (S97)) (ap:Option Addr) (aq:Nat) (ag:List Int) (ar:Option Addr) (au:Nat) (ah:List (S97)) (r:Bool) (w:World) (hr0_0:Kd.C (Kd.int .i64) w al ae.length ae) (hc0_0:ae.length≤am) (hr0_1:Kd.C k97 w an af.length af) (hc0_1:af.length≤ao) (hr1_0:Kd.C (Kd.int .i64) w ap ag.length ag) (hc1_0:ag.length≤aq) (hr1_1:Kd.C k97 w ar ah.length ah) (hc1_1:ah.length≤au) (h:spec_l10Same.f k ae af ag ah=some r) :
  Calls Try.prog 96 #[.agg #[.slice al ae.length am,.slice an af.length ao],.agg #[.slice ap ag.length aq,.slice ar ah.length au]] w fun e w'=>e=.returned (.bool r)∧Below w.heap.size w w':=by
 have bR:=Try.underlying32;have az:=qK hr0_0;have aA:=qK hc0_0;clear hr0_0 hc0_0;have aC:=qK hr0_1;have aD:=qK hc0_1;clear hr0_1 hc0_1;have aE:=qK hr1_0;have aG:=qK hc1_0;clear hr1_0 hc1_0;have aH:=qK hr1_1;have aI:=qK hc1_1;clear hr1_1 hc1_1;have HB:=qK (Below.refl w.heap.size w);have H:((spec_l10Contained.f k ae af ag ah).bind fun aQ=>((spec_l10Contained.f k ag ah ae af).bind fun aJ=>(if aQ.2=true then (some aJ.2) else (some false))))=some r:=h;clear h;replace H:=Option.bind_eq_some_iff.mp H;obtain ⟨⟨aT,aN⟩,bN,H⟩:=H;replace H:((spec_l10Contained.f k ag ah ae af).bind fun aJ=>(if aN=true then (some aJ.2) else (some false)))=some r:=H;have A3:=qK bN;clear bN;replace H:=Option.bind_eq_some_iff.mp H;obtain ⟨⟨aU,aM⟩,bO,H⟩:=H;replace H:(if aN=true then (some aM) else (some false))=some r:=H;have A4:=qK bO;clear bO;by_cases c5:aN=true
 ·subst c5;have H1:(some aM)=some r:=by rw [if_pos rfl] at H;exact H
  clear H;have H:=H1;clear H1;obtain rfl:=Option.some.inj H;go_enter Try.func96,Try.ntmps96
  go_wp2_with (first|((with_reducible refine gate_dst (N:=2) rfl ?_);refine box_event ?hg (N:=2) ?hd (cs:=#[.slice al ae.length am,.slice an af.length ao]) (t:=32) ?hr ?_;(case hd=>rfl);(case hg=>rfl);(case hr=>(go_simp;try rfl));intro ac hg w6 hbox hb;have ax:=qK (qT HB.out hb);have ay:=qK (hbox);have av:=qK ((by rw [hg];exact (qZ HB.out):w.heap.size≤ac));have aw:=av;clear HB;have HB:=ax;have aa:=ay;have aV:=av;have aW:=aw;clear ax ay av aw;clear hb hbox hg)|((with_reducible refine gate_dst (N:=3) rfl ?_);refine box_event ?hg (N:=3) ?hd (cs:=#[.slice ap ag.length aq,.slice ar ah.length au]) (t:=32) ?hr ?_;(case hd=>rfl);(case hg=>rfl);(case hr=>(go_simp;try rfl));intro ad hg w7 hbox hb;have ax:=qK (qB (g:=ac) (o:=_) aa.out hb);have ay:=qK (qT HB.out hb);have av:=qK (hbox);have aw:=qK ((by rw [hg];exact (qZ HB.out):w.heap.size≤ad));have aK:=aw;have aP:=qK ((by rw [hg];exact Nat.ne_of_lt (blk_lt (g:=ac) (o:=_) aa.out):ac ≠ ad));have aX:=qK aP.out.symm;clear aa HB;have aa:=ax;have HB:=ay;have ab:=av;have aY:=aw;have aZ:=aK;have aj:=aP;have ak:=aX;clear ax ay av aw aK aP aX hb hbox hg;have bS:=aj.out;have bT:=ak.out;have bH:w7.cell? ⟨ac,0,none⟩=some (.slice al ae.length am):=(qC aa.out 0).trans rfl;have bI:w7.cell? ⟨ac,1,none⟩=some (.slice an af.length ao):=(qC aa.out 1).trans rfl;have bJ:=qF aa.out 0;have bK:=qF aa.out 1;have bb:w7.cell? ⟨ad,0,none⟩=some (.slice ap ag.length aq):=(qC ab.out 0).trans rfl;have bc:w7.cell? ⟨ad,1,none⟩=some (.slice ar ah.length au):=(qC ab.out 1).trans rfl;have bd:=qF ab.out 0;have be:=qF ab.out 1)|((with_reducible refine gate_callee (f:=99) rfl ?_);refine goesL_ (some 12) rfl rfl Try.func99 (by kernel_rfl) rfl #[.agg #[.slice al ae.length am,.slice an af.length ao],.agg #[.slice ap ag.length aq,.slice ar ah.length au]] rfl (by (try simp only [mT,mC,mN]);first|done|rfl|(simp only [lD,lT];rfl)) ?_;(with_reducible refine (spec_l10Contained.calls k _ _ ae _ _ af _ _ ag _ _ ah aT true _ ?side1 ?side2 ?side3 ?side4 ?side5 ?side6 ?side7 ?side8 A3.out).mono ?_);(case side1=>exact (cB az.out HB.out));(case side2=>exact aA.out);(case side3=>exact (cB aC.out HB.out));(case side4=>exact aD.out);(case side5=>exact (cB aE.out HB.out));(case side6=>exact aG.out);(case side7=>exact (cB aH.out HB.out));(case side8=>exact aI.out);rintro e bf ⟨bL,rfl,ho0,hb⟩;refine ⟨_,rfl,?_⟩;have ax:=qK (Kd.R_lower ho0 (qZ HB.out));have ay:=qK (qB (g:=ac) (o:=_) aa.out hb);have av:=qK (qB (g:=ad) (o:=_) ab.out hb);have aw:=qK (qT HB.out hb);clear aa ab HB;have ai:=ax;have aa:=ay;have ab:=av;have HB:=aw;clear ax ay av aw;(try clear hb);(try clear ho0);have bg:bf.cell? ⟨ad,0,none⟩=some (.slice ap ag.length aq):=(qC ab.out 0).trans rfl;have bh:bf.cell? ⟨ad,1,none⟩=some (.slice ar ah.length au):=(qC ab.out 1).trans rfl;have bi:=qF ab.out 0;have bj:=qF ab.out 1;have bk:bf.cell? ⟨ac,0,none⟩=some (.slice al ae.length am):=(qC aa.out 0).trans rfl;have bl:bf.cell? ⟨ac,1,none⟩=some (.slice an af.length ao):=(qC aa.out 1).trans rfl;have bm:=qF aa.out 0;have bn:=qF aa.out 1)|((with_reducible refine gate_callee (f:=99) rfl ?_);refine goesL_ (some 18) rfl rfl Try.func99 (by kernel_rfl) rfl #[.agg #[.slice ap ag.length aq,.slice ar ah.length au],.agg #[.slice al ae.length am,.slice an af.length ao]] rfl (by (try simp only [mT,mC,mN]);first|done|rfl|(simp only [lD,lT];rfl)) ?_;(with_reducible refine (spec_l10Contained.calls k _ _ ag _ _ ah _ _ ae _ _ af aU aM _ ?side1 ?side2 ?side3 ?side4 ?side5 ?side6 ?side7 ?side8 A4.out).mono ?_);(case side1=>exact (cB aE.out HB.out));(case side2=>exact aG.out);(case side3=>exact (cB aH.out HB.out));(case side4=>exact aI.out);(case side5=>exact (cB az.out HB.out));(case side6=>exact aA.out);(case side7=>exact (cB aC.out HB.out));(case side8=>exact aD.out);rintro e bU ⟨bM,rfl,ho0,hb⟩;refine ⟨_,rfl,?_⟩;have ax:=qK (Kd.R_elder' ai.out (Kd.R_base ho0) hb);have ay:=qK (Kd.R_lower (Kd.R_new' ho0 (Kd.R_lt ai.out)) (qZ HB.out));have av:=qK (qB (g:=ac) (o:=_) aa.out hb);have aw:=qK (qB (g:=ad) (o:=_) ab.out hb);have aK:=qK (qT HB.out hb);clear ai aa ab HB;have ai:=ax;have ba:=ay;have aa:=av;have ab:=aw;have HB:=aK;clear ax ay av aw aK;(try clear hb);(try clear ho0)))
  go_ret
  exact ⟨by rfl,HB.out⟩
 ·replace c5:=Bool.eq_false_iff.mpr c5;subst c5;have H1:(some false)=some r:=by rw [if_neg (show ¬ (false=true) by decide)] at H;exact H
  clear H;have H:=H1;clear H1;obtain rfl:=Option.some.inj H;go_enter Try.func96,Try.ntmps96
  go_wp2_with (first|((with_reducible refine gate_dst (N:=2) rfl ?_);refine box_event ?hg (N:=2) ?hd (cs:=#[.slice al ae.length am,.slice an af.length ao]) (t:=32) ?hr ?_;(case hd=>rfl);(case hg=>rfl);(case hr=>(go_simp;try rfl));intro ac hg bV hbox hb;have ax:=qK (qT HB.out hb);have ay:=qK (hbox);have av:=qK ((by rw [hg];exact (qZ HB.out):w.heap.size≤ac));have aw:=av;clear HB;have HB:=ax;have aa:=ay;have aV:=av;have aW:=aw;clear ax ay av aw;clear hb hbox hg)|((with_reducible refine gate_dst (N:=3) rfl ?_);refine box_event ?hg (N:=3) ?hd (cs:=#[.slice ap ag.length aq,.slice ar ah.length au]) (t:=32) ?hr ?_;(case hd=>rfl);(case hg=>rfl);(case hr=>(go_simp;try rfl));intro ad hg bo hbox hb;have ax:=qK (qB (g:=ac) (o:=_) aa.out hb);have ay:=qK (qT HB.out hb);have av:=qK (hbox);have aw:=qK ((by rw [hg];exact (qZ HB.out):w.heap.size≤ad));have aK:=aw;have aP:=qK ((by rw [hg];exact Nat.ne_of_lt (blk_lt (g:=ac) (o:=_) aa.out):ac ≠ ad));have aX:=qK aP.out.symm;clear aa HB;have aa:=ax;have HB:=ay;have ab:=av;have aY:=aw;have aZ:=aK;have aj:=aP;have ak:=aX;clear ax ay av aw aK aP aX hb hbox hg;have bP:=aj.out;have bQ:=ak.out;have bp:bo.cell? ⟨ac,0,none⟩=some (.slice al ae.length am):=(qC aa.out 0).trans rfl;have bq:bo.cell? ⟨ac,1,none⟩=some (.slice an af.length ao):=(qC aa.out 1).trans rfl;have br:=qF aa.out 0;have bs:=qF aa.out 1;have bt:bo.cell? ⟨ad,0,none⟩=some (.slice ap ag.length aq):=(qC ab.out 0).trans rfl;have bu:bo.cell? ⟨ad,1,none⟩=some (.slice ar ah.length au):=(qC ab.out 1).trans rfl;have bv:=qF ab.out 0;have bw:=qF ab.out 1)|((with_reducible refine gate_callee (f:=99) rfl ?_);refine goesL_ (some 12) rfl rfl Try.func99 (by kernel_rfl) rfl #[.agg #[.slice al ae.length am,.slice an af.length ao],.agg #[.slice ap ag.length aq,.slice ar ah.length au]] rfl (by (try simp only [mT,mC,mN]);first|done|rfl|(simp only [lD,lT];rfl)) ?_;(with_reducible refine (spec_l10Contained.calls k _ _ ae _ _ af _ _ ag _ _ ah aT false _ ?side1 ?side2 ?side3 ?side4 ?side5 ?side6 ?side7 ?side8 A3.out).mono ?_);(case side1=>exact (cB az.out HB.out));(case side2=>exact aA.out);(case side3=>exact (cB aC.out HB.out));(case side4=>exact aD.out);(case side5=>exact (cB aE.out HB.out));(case side6=>exact aG.out);(case side7=>exact (cB aH.out HB.out));(case side8=>exact aI.out);rintro e bx ⟨bL,rfl,ho0,hb⟩;refine ⟨_,rfl,?_⟩;have ax:=qK (Kd.R_lower ho0 (qZ HB.out));have ay:=qK (qB (g:=ac) (o:=_) aa.out hb);have av:=qK (qB (g:=ad) (o:=_) ab.out hb);have aw:=qK (qT HB.out hb);clear aa ab HB;have ai:=ax;have aa:=ay;have ab:=av;have HB:=aw;clear ax ay av aw;(try clear hb);(try clear ho0);have bz:bx.cell? ⟨ad,0,none⟩=some (.slice ap ag.length aq):=(qC ab.out 0).trans rfl;have bA:bx.cell? ⟨ad,1,none⟩=some (.slice ar ah.length au):=(qC ab.out 1).trans rfl;have bB:=qF ab.out 0;have bC:=qF ab.out 1;have bD:bx.cell? ⟨ac,0,none⟩=some (.slice al ae.length am):=(qC aa.out 0).trans rfl;have bE:bx.cell? ⟨ac,1,none⟩=some (.slice an af.length ao):=(qC aa.out 1).trans rfl;have bF:=qF aa.out 0;have bG:=qF aa.out 1)|((with_reducible refine gate_callee (f:=99) rfl ?_);refine goesL_ (some 18) rfl rfl Try.func99 (by kernel_rfl) rfl #[.agg #[.slice ap ag.length aq,.slice ar ah.length au],.agg #[.slice al ae.length am,.slice an af.length ao]] rfl (by (try simp only [mT,mC,mN]);first|done|rfl|(simp only [lD,lT];rfl)) ?_;(with_reducible refine (spec_l10Contained.calls k _ _ ag _ _ ah _ _ ae _ _ af aU aM _ ?side1 ?side2 ?side3 ?side4 ?side5 ?side6 ?side7 ?side8 A4.out).mono ?_);(case side1=>exact (cB aE.out HB.out));(case side2=>exact aG.out);(case side3=>exact (cB aH.out HB.out));(case side4=>exact aI.out);(case side5=>exact (cB az.out HB.out));(case side6=>exact aA.out);(case side7=>exact (cB aC.out HB.out));(case side8=>exact aD.out);rintro e bW ⟨bM,rfl,ho0,hb⟩;refine ⟨_,rfl,?_⟩;have ax:=qK (Kd.R_elder' ai.out (Kd.R_base ho0) hb);have ay:=qK (Kd.R_lower (Kd.R_new' ho0 (Kd.R_lt ai.out)) (qZ HB.out));have av:=qK (qB (g:=ac) (o:=_) aa.out hb);have aw:=qK (qB (g:=ad) (o:=_) ab.out hb);have aK:=qK (qT HB.out hb);clear ai aa ab HB;have ai:=ax;have ba:=ay;have aa:=av;have ab:=aw;have HB:=aK;clear ax ay av aw aK;(try clear hb);(try clear ho0)))
  go_ret
  exact ⟨by rfl,HB.out⟩

end Go.Proofs.Ytboligpcbndkjaa.PFnExactCoreOf
