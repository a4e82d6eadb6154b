/-
  A text of this claim's own, printed by a program of the session (wip/tools/xprint.py): functions of the program as Lean functions, each with what its call comes to.
-/
import Derived.Test.YtboligpcbndkjaaPFnExactCoreOfx0
namespace Go.Proofs.Ytboligpcbndkjaa.PFnExactCoreOf
open Go.Proofs.YtboligpcbndkjaaW.PrintWords renaming pw_below_drewN → qD, blk_cell → qC, below_drew1 → qO, below_alloc → qA, blk_frozen → qF, below_set → qS, blk_drewN → qN, blk_alloc → qL, blk_drew → qW, below_size → qZ, below_step → qT, blk_below → qB, blk_far → qR, blk_put → qP
open Go.Proofs.YtboligpcbndkjaaW.PrintWords.Aside0 renaming mk → qK
open Bool renaming true → Y, false → Z
open List renaming setIfInBounds_toArray → sIb, set_cons_zero → sZ, set_cons_succ → sS, map_toArray → mT, map_cons → mC, map_nil → mN, length_drop → lD, length_take → lT
open Go.Proofs.YtboligpcbndkjaaW.PrintWords.Kd renaming C_alloc → cL, C_drewN → cN, C_drew → cW, C_below → cB, R_alloc → rL, R_drewN → rN, R_drew → rW, R_below → rB
open Go.RowKit Go.Proofs.YtboligpcbndkjaaW.PrintWords Go.Proofs.YtboligpcbndkjaaW.PrintLast Go.Proofs.YtboligpcbndkjaaW.PrintMore
attribute [local go_sem] max2_int min2_int max_two min_two max_three min_three max_four min_four   -- for this text's walks alone
set_option linter.unusedVariables false
set_option linter.unusedSimpArgs false

/-! ### laws_szIntS: function 73 -/
def laws_szIntS.f (l0:List Int) (a1:Int):Option (Int):=if (wrap64 (a1 - (l0.length:Int))) < 0 then (some (-1)) else (some (wrap64 (a1 - (l0.length:Int))))
set_option maxHeartbeats 8000000 in
set_option maxRecDepth 100000 in
theorem laws_szIntS.calls (A0:Option Addr) (c0:Nat) (l0:List Int) (a1:Int) (r:Int) (w:World) (hr0:Kd.C (Kd.int .i64) w A0 l0.length l0) (hc0:l0.length≤c0) (h:laws_szIntS.f l0 a1=some r) :
  Calls Try.prog 73 #[.slice A0 l0.length c0,.int .i64 a1] w fun e w'=>e=.returned (.int .i64 r)∧Drawn0 w w':=by
 have ab:=qK hr0;have ac:=qK hc0;clear hr0 hc0;have H:(if (wrap64 (a1 - (l0.length:Int))) < 0 then (some (-1)) else (some (wrap64 (a1 - (l0.length:Int)))))=some r:=h;clear h;by_cases c3:(wrap64 (a1 - (l0.length:Int))) < 0
 ·rw [if_pos c3] at H;have aa:decide ((wrap64 (a1 - (l0.length:Int))) < 0)=true:=decide_eq_true c3;clear c3;obtain rfl:=Option.some.inj H;go_enter Try.func73,Try.ntmps73
  go_wp2
  go_ret
  exact ⟨by first|rfl|(simp;done)|(simp [*];done),by repeat (first|exact Drawn0.refl _|apply Drawn0.step)⟩
 ·rw [if_neg c3] at H;have aa:decide ((wrap64 (a1 - (l0.length:Int))) < 0)=false:=decide_eq_false c3;clear c3;obtain rfl:=Option.some.inj H;go_enter Try.func73,Try.ntmps73
  go_wp2
  go_ret
  exact ⟨by first|rfl|(simp;done)|(simp [*];done),by repeat (first|exact Drawn0.refl _|apply Drawn0.step)⟩

/-! ### laws_szAtom: function 137 -/
def laws_szAtom.f (a0_0:Int) (l0_1:List Int) (a1:Int):Option (Int):=(laws_szIntS.f l0_1 a1).bind fun t102=>(if t102 < 0 then (some (-1)) else (some t102))
set_option maxHeartbeats 8000000 in
set_option maxRecDepth 100000 in
theorem laws_szAtom.calls (ah:Int) (af:Option Addr) (ag:Nat) (aa:List Int) (a1:Int) (r:Int) (w:World) (hr0_1:Kd.C (Kd.int .i64) w af aa.length aa) (hc0_1:aa.length≤ag) (h:laws_szAtom.f ah aa a1=some r) :
  Calls Try.prog 137 #[.agg #[.int .i64 ah,.slice af aa.length ag],.int .i64 a1] w fun e w'=>e=.returned (.int .i64 r)∧Below w.heap.size w w':=by
 have aB:=Try.underlying158;have aj:=qK hr0_1;have ak:=qK hc0_1;clear hr0_1 hc0_1;have HB:=qK (Below.refl w.heap.size w);have H:((laws_szIntS.f aa a1).bind fun ae=>(if ae < 0 then (some (-1)) else (some ae)))=some r:=h;clear h;replace H:=Option.bind_eq_some_iff.mp H;obtain ⟨ae,aC,H⟩:=H;replace H:(if ae < 0 then (some (-1)) else (some ae))=some r:=H;have A3:=qK aC;clear aC;by_cases c4:ae < 0
 ·rw [if_pos c4] at H;have aq:decide (ae < 0)=true:=decide_eq_true c4;clear c4;obtain rfl:=Option.some.inj H;go_enter Try.func137,Try.ntmps137
  go_wp2_with (first|((with_reducible refine gate_dst (N:=2) rfl ?_);refine box_event ?hg (N:=2) ?hd (cs:=#[.int .i64 ah,.slice af aa.length ag]) (t:=158) ?hr ?_;(case hd=>rfl);(case hg=>rfl);(case hr=>(go_simp;try rfl));intro ac hg w5 hbox hb;have am:=qK (qT HB.out hb);have an:=qK (hbox);have al:=qK ((by rw [hg];exact (qZ HB.out):w.heap.size≤ac));have ao:=al;clear HB;have HB:=am;have ab:=an;have ap:=al;have ai:=ao;clear am an al ao hb hbox hg;have ar:w5.cell? ⟨ac,0,none⟩=some (.int .i64 ah):=(qC ab.out 0).trans rfl;have au:w5.cell? ⟨ac,1,none⟩=some (.slice af aa.length ag):=(qC ab.out 1).trans rfl;have av:=qF ab.out 0;have aw:=qF ab.out 1)|((with_reducible refine gate_callee (f:=73) rfl ?_);refine goesL_ (some 8) rfl rfl Try.func73 (by kernel_rfl) rfl #[.slice af aa.length ag,.int .i64 a1] rfl (by (try simp only [mT,mC,mN]);first|done|rfl|(simp only [lD,lT];rfl)) ?_;(with_reducible refine (laws_szIntS.calls _ _ aa a1 ae _ ?side1 ?side2 A3.out).mono ?_);(case side1=>exact (cB aj.out HB.out));(case side2=>exact ak.out);rintro e w' ⟨rfl,⟨nd,rfl⟩⟩;refine ⟨_,rfl,?_⟩))
  go_ret
  exact ⟨by rfl,by repeat (first|(with_reducible first|exact HB.out|apply qA|apply qD|apply qO|refine qS ?_ ai.out)|exact HB.out)⟩
 ·rw [if_neg c4] at H;have aq:decide (ae < 0)=false:=decide_eq_false c4;clear c4;obtain rfl:=Option.some.inj H;go_enter Try.func137,Try.ntmps137
  go_wp2_with (first|((with_reducible refine gate_dst (N:=2) rfl ?_);refine box_event ?hg (N:=2) ?hd (cs:=#[.int .i64 ah,.slice af aa.length ag]) (t:=158) ?hr ?_;(case hd=>rfl);(case hg=>rfl);(case hr=>(go_simp;try rfl));intro ac hg w7 hbox hb;have am:=qK (qT HB.out hb);have an:=qK (hbox);have al:=qK ((by rw [hg];exact (qZ HB.out):w.heap.size≤ac));have ao:=al;clear HB;have HB:=am;have ab:=an;have ap:=al;have ai:=ao;clear am an al ao hb hbox hg;have ax:w7.cell? ⟨ac,0,none⟩=some (.int .i64 ah):=(qC ab.out 0).trans rfl;have ay:w7.cell? ⟨ac,1,none⟩=some (.slice af aa.length ag):=(qC ab.out 1).trans rfl;have az:=qF ab.out 0;have aA:=qF ab.out 1)|((with_reducible refine gate_callee (f:=73) rfl ?_);refine goesL_ (some 8) rfl rfl Try.func73 (by kernel_rfl) rfl #[.slice af aa.length ag,.int .i64 a1] rfl (by (try simp only [mT,mC,mN]);first|done|rfl|(simp only [lD,lT];rfl)) ?_;(with_reducible refine (laws_szIntS.calls _ _ aa a1 ae _ ?side1 ?side2 A3.out).mono ?_);(case side1=>exact (cB aj.out HB.out));(case side2=>exact ak.out);rintro e w' ⟨rfl,⟨nd,rfl⟩⟩;refine ⟨_,rfl,?_⟩))
  go_ret
  exact ⟨by rfl,by repeat (first|(with_reducible first|exact HB.out|apply qA|apply qD|apply qO|refine qS ?_ ai.out)|exact HB.out)⟩

/-! ### laws_szAtomS: function 74 -/
def laws_szAtomS.l0 : Nat→List (S158)→Int→Int→Option (Int)
 | 0,_,_,_=>none
 | k + 1,x0,x1,x5=>if x5 < (x0.length:Int) then (if 0≤x5 then ((laws_szAtom.f ((rd_T158 x0 x5).f0) ((rd_T158 x0 x5).f1) x1).bind fun t104=>(if t104 < 0 then (some (-1)) else (laws_szAtomS.l0 k x0 t104 (wrap64 (x5 + 1))))) else (none)) else (some x1)
def laws_szAtomS.f (k:Nat) (l0:List (S158)) (a1:Int):Option (Int):=if (wrap64 (a1 - (l0.length:Int))) < 0 then (some (-1)) else (laws_szAtomS.l0 k l0 (wrap64 (a1 - (l0.length:Int))) 0)
theorem laws_szAtomS.mono_l : ∀ k,(∀ y0 y1 y2,LeO (laws_szAtomS.l0 k y0 y1 y2) (laws_szAtomS.l0 (k + 1) y0 y1 y2))
 | 0=>fun _ _ _ r h=>by simp [laws_szAtomS.l0] at h
 | k + 1=>by
  have aa:=laws_szAtomS.mono_l k
  ·intro y0 y1 y2;unfold laws_szAtomS.l0
   repeat' first
   | (with_reducible exact aa _ _ _)
   | (with_reducible exact LeO.refl _)
   | (with_reducible exact LeO.none _)
   | (with_reducible refine LeO.ite ?_ ?_)
   | (with_reducible refine LeO.bind ?_ (fun _=>?_))
   | exact aa _ _ _
   | exact LeO.none _
   | refine LeO.ite ?_ ?_
   | refine LeO.bind ?_ (fun _=>?_)
theorem laws_szAtomS.mono : ∀ a0 a1 k,LeO (laws_szAtomS.f k a0 a1) (laws_szAtomS.f (k + 1) a0 a1):=by
 intro a0 a1 k;have aa:=laws_szAtomS.mono_l k;unfold laws_szAtomS.f
 repeat' first
   | (with_reducible exact aa _ _ _)
   | (with_reducible exact LeO.refl _)
   | (with_reducible exact LeO.none _)
   | (with_reducible refine LeO.ite ?_ ?_)
   | (with_reducible refine LeO.bind ?_ (fun _=>?_))
   | exact aa _ _ _
   | exact LeO.none _
   | refine LeO.ite ?_ ?_
   | refine LeO.bind ?_ (fun _=>?_)
set_option maxHeartbeats 8000000 in
set_option maxRecDepth 100000 in
theorem laws_szAtomS.calls (k:Nat) (A0:Option Addr) (c0:Nat) (l0:List (S158)) (a1:Int) (r:Int) (w:World) (hr0:Kd.C k158 w A0 l0.length l0) (hc0:l0.length≤c0) (h:laws_szAtomS.f k l0 a1=some r) :
  Calls Try.prog 74 #[.slice A0 l0.length c0,.int .i64 a1] w fun e w'=>e=.returned (.int .i64 r)∧Below w.heap.size w w':=by
 have aw:=Try.underlying158;have ax:=qK hr0;have aB:=qK hc0;clear hr0 hc0;have HB:=qK (Below.refl w.heap.size w);have H:(if (wrap64 (a1 - (l0.length:Int))) < 0 then (some (-1)) else (laws_szAtomS.l0 k l0 (wrap64 (a1 - (l0.length:Int))) 0))=some r:=h;clear h;by_cases c3:(wrap64 (a1 - (l0.length:Int))) < 0
 ·rw [if_pos c3] at H;have ap:decide ((wrap64 (a1 - (l0.length:Int))) < 0)=true:=decide_eq_true c3;clear c3;obtain rfl:=Option.some.inj H;go_enter Try.func74,Try.ntmps74
  go_wp2
  go_ret
  exact ⟨by rfl,HB.out⟩
 ·rw [if_neg c3] at H;have ap:decide ((wrap64 (a1 - (l0.length:Int))) < 0)=false:=decide_eq_false c3;clear c3;have H':=qK H;clear H;go_enter Try.func74,Try.ntmps74
  go_wp2
  go_loopg [1,5] k (fun kq v1 v5 w'=>∃ (aj:Int) (aa:Int),v1=.int .i64 aj∧v5=.int .i64 aa∧Aside0 (laws_szAtomS.l0 kq l0 aj aa=some r)∧Aside0 (kq≤k)∧Aside0 (Below w.heap.size w w'))
  case atStart=>exact ⟨(wrap64 (a1 - (l0.length:Int))),(0),(by rfl),(by rfl),H',⟨Nat.le_refl _⟩,⟨HB.out⟩⟩
  case round =>
   clear H';try clear p2
   try clear c3
   try clear ap
   obtain ⟨aj,aa,rfl,rfl,HA,ay,HB⟩:=hrel;cases gk with
   | zero=>exact absurd HA.out (by simp [laws_szAtomS.l0])
   | succ k1 =>
    have H:=HA.out;clear HA;simp only [laws_szAtomS.l0] at H;by_cases c4:aa < (l0.length:Int)
    ·rw [if_pos c4] at H;have au:decide (aa < (l0.length:Int))=true:=decide_eq_true c4;clear c4;by_cases c5:0≤aa
     ·rw [if_pos c5] at H;have aA:decide (0≤aa)=true:=decide_eq_true c5;clear c5;replace H:=Option.bind_eq_some_iff.mp H;obtain ⟨ai,az,H⟩:=H;replace H:(if ai < 0 then (some (-1)) else (laws_szAtomS.l0 k1 l0 ai (wrap64 (aa + 1))))=some r:=H;have A6:=qK az;clear az;by_cases c7:ai < 0
      ·rw [if_pos c7] at H;have av:decide (ai < 0)=true:=decide_eq_true c7;clear c7;obtain rfl:=Option.some.inj H;have ak:0≤(aa:Int):=of_decide_eq_true (by assumption);have al:aa < (l0.length:Int):=of_decide_eq_true (by assumption);obtain ⟨aq,am,an,ao,ab,ac,ae,af⟩:=at_T158 ax.out aa ak al;cases ao
       replace ab:=(HB.out.cell (World.block_lt_of_cell? w _ ab)).trans ab;replace ac:=(HB.out.cell (World.block_lt_of_cell? w _ ac)).trans ac;have ag:=qK af;have ah:=qK ae;clear af ae;replace ak:=eq_true ak;replace al:=eq_true al;go_wp2_with (first|((with_reducible refine gate_callee (f:=137) rfl ?_);refine goesL_ (some 23) rfl rfl Try.func137 (by kernel_rfl) rfl #[.agg #[.int .i64 ((rd_T158 l0 aa).f0),.slice am ((rd_T158 l0 aa).f1).length an],.int .i64 aj] rfl (by (try simp only [mT,mC,mN]);first|done|rfl|(simp only [lD,lT];rfl)) ?_;(with_reducible refine (laws_szAtom.calls ((rd_T158 l0 aa).f0) _ _ ((rd_T158 l0 aa).f1) aj ai _ ?side1 ?side2 A6.out).mono ?_);(case side1=>exact (cB ag.out HB.out));(case side2=>exact ah.out);rintro e w8 ⟨rfl,hb⟩;refine ⟨_,rfl,?_⟩;have ar:=qK (qT HB.out hb);clear HB;have HB:=ar;clear ar;(try clear hb)))
       go_ret
       exact ⟨by rfl,HB.out⟩
      ·rw [if_neg c7] at H;have av:decide (ai < 0)=false:=decide_eq_false c7;clear c7;have H':=qK H;clear H;have ak:0≤(aa:Int):=of_decide_eq_true (by assumption);have al:aa < (l0.length:Int):=of_decide_eq_true (by assumption);obtain ⟨aq,am,an,ao,ab,ac,ae,af⟩:=at_T158 ax.out aa ak al;cases ao
       replace ab:=(HB.out.cell (World.block_lt_of_cell? w _ ab)).trans ab;replace ac:=(HB.out.cell (World.block_lt_of_cell? w _ ac)).trans ac;have ag:=qK af;have ah:=qK ae;clear af ae;replace ak:=eq_true ak;replace al:=eq_true al;go_wp2_with (first|((with_reducible refine gate_callee (f:=137) rfl ?_);refine goesL_ (some 23) rfl rfl Try.func137 (by kernel_rfl) rfl #[.agg #[.int .i64 ((rd_T158 l0 aa).f0),.slice am ((rd_T158 l0 aa).f1).length an],.int .i64 aj] rfl (by (try simp only [mT,mC,mN]);first|done|rfl|(simp only [lD,lT];rfl)) ?_;(with_reducible refine (laws_szAtom.calls ((rd_T158 l0 aa).f0) _ _ ((rd_T158 l0 aa).f1) aj ai _ ?side1 ?side2 A6.out).mono ?_);(case side1=>exact (cB ag.out HB.out));(case side2=>exact ah.out);rintro e w9 ⟨rfl,hb⟩;refine ⟨_,rfl,?_⟩;have ar:=qK (qT HB.out hb);clear HB;have HB:=ar;clear ar;(try clear hb)))
       go_roundg k1
       case measure=>have:=ay.out;omega
       case rel=>exact ⟨(ai),(wrap64 (aa + 1)),(by rfl),(by rfl),H',⟨by have:=ay.out;omega⟩,⟨HB.out⟩⟩
     ·rw [if_neg c5] at H;exact absurd H (by simp)
    ·rw [if_neg c4] at H;have au:decide (aa < (l0.length:Int))=false:=decide_eq_false c4;clear c4;obtain rfl:=Option.some.inj H;go_wp2
     go_ret
     exact ⟨by rfl,HB.out⟩

/-! ### laws_szQuery: function 14 -/
def laws_szQuery.f (k:Nat) (l0_0:List Int) (l0_1:List (S158)) (a1:Int):Option (Int):=(laws_szIntS.f l0_0 a1).bind fun t106=>(if t106 < 0 then (some (-1)) else ((laws_szAtomS.f k l0_1 t106).bind fun t107=>(if t107 < 0 then (some (-1)) else (some t107))))
theorem laws_szQuery.mono : ∀ a0 a1 a2 k,LeO (laws_szQuery.f k a0 a1 a2) (laws_szQuery.f (k + 1) a0 a1 a2):=by
 intro a0 a1 a2 k;unfold laws_szQuery.f
 repeat' first
   | (with_reducible exact laws_szAtomS.mono _ _ _)
   | (with_reducible exact LeO.refl _)
   | (with_reducible exact LeO.none _)
   | (with_reducible refine LeO.ite ?_ ?_)
   | (with_reducible refine LeO.bind ?_ (fun _=>?_))
   | exact laws_szAtomS.mono _ _ _
   | exact LeO.none _
   | refine LeO.ite ?_ ?_
   | refine LeO.bind ?_ (fun _=>?_)
set_option maxHeartbeats 8000000 in
set_option maxRecDepth 100000 in
theorem laws_szQuery.calls (k:Nat) (ah:Option Addr) (ai:Nat) (ac:List Int) (ak:Option Addr) (al:Nat) (ae:List (S158)) (a1:Int) (r:Int) (w:World) (hr0_0:Kd.C (Kd.int .i64) w ah ac.length ac) (hc0_0:ac.length≤ai) (hr0_1:Kd.C k158 w ak ae.length ae) (hc0_1:ae.length≤al) (h:laws_szQuery.f k ac ae a1=some r) :
  Calls Try.prog 14 #[.agg #[.slice ah ac.length ai,.slice ak ae.length al],.int .i64 a1] w fun e w'=>e=.returned (.int .i64 r)∧Below w.heap.size w w':=by
 have aO:=Try.underlying25;have ao:=qK hr0_0;have ap:=qK hc0_0;clear hr0_0 hc0_0;have ar:=qK hr0_1;have au:=qK hc0_1;clear hr0_1 hc0_1;have HB:=qK (Below.refl w.heap.size w);have H:((laws_szIntS.f ac a1).bind fun af=>(if af < 0 then (some (-1)) else ((laws_szAtomS.f k ae af).bind fun ag=>(if ag < 0 then (some (-1)) else (some ag)))))=some r:=h;clear h;replace H:=Option.bind_eq_some_iff.mp H;obtain ⟨af,aL,H⟩:=H;replace H:(if af < 0 then (some (-1)) else ((laws_szAtomS.f k ae af).bind fun ag=>(if ag < 0 then (some (-1)) else (some ag))))=some r:=H;have A3:=qK aL;clear aL;by_cases c4:af < 0
 ·rw [if_pos c4] at H;have aF:decide (af < 0)=true:=decide_eq_true c4;clear c4;obtain rfl:=Option.some.inj H;go_enter Try.func14,Try.ntmps14
  go_wp2_with (first|((with_reducible refine gate_dst (N:=2) rfl ?_);refine box_event ?hg (N:=2) ?hd (cs:=#[.slice ah ac.length ai,.slice ak ae.length al]) (t:=25) ?hr ?_;(case hd=>rfl);(case hg=>rfl);(case hr=>(go_simp;try rfl));intro ab hg w5 hbox hb;have am:=qK (qT HB.out hb);have an:=qK (hbox);have aq:=qK ((by rw [hg];exact (qZ HB.out):w.heap.size≤ab));have av:=aq;clear HB;have HB:=am;have aa:=an;have aw:=aq;have aj:=av;clear am an aq av hb hbox hg;have aG:w5.cell? ⟨ab,0,none⟩=some (.slice ah ac.length ai):=(qC aa.out 0).trans rfl;have aH:w5.cell? ⟨ab,1,none⟩=some (.slice ak ae.length al):=(qC aa.out 1).trans rfl;have aI:=qF aa.out 0;have aJ:=qF aa.out 1)|((with_reducible refine gate_callee (f:=73) rfl ?_);refine goesL_ (some 8) rfl rfl Try.func73 (by kernel_rfl) rfl #[.slice ah ac.length ai,.int .i64 a1] rfl (by (try simp only [mT,mC,mN]);first|done|rfl|(simp only [lD,lT];rfl)) ?_;(with_reducible refine (laws_szIntS.calls _ _ ac a1 af _ ?side1 ?side2 A3.out).mono ?_);(case side1=>exact (cB ao.out HB.out));(case side2=>exact ap.out);rintro e w' ⟨rfl,⟨nd,rfl⟩⟩;refine ⟨_,rfl,?_⟩))
  go_ret
  exact ⟨by rfl,by repeat (first|(with_reducible first|exact HB.out|apply qA|apply qD|apply qO|refine qS ?_ aj.out)|exact HB.out)⟩
 ·rw [if_neg c4] at H;have aF:decide (af < 0)=false:=decide_eq_false c4;clear c4;replace H:=Option.bind_eq_some_iff.mp H;obtain ⟨ag,aM,H⟩:=H;replace H:(if ag < 0 then (some (-1)) else (some ag))=some r:=H;have A7:=qK aM;clear aM;by_cases c8:ag < 0
  ·rw [if_pos c8] at H;have aK:decide (ag < 0)=true:=decide_eq_true c8;clear c8;obtain rfl:=Option.some.inj H;go_enter Try.func14,Try.ntmps14
   go_wp2_with (first|((with_reducible refine gate_dst (N:=2) rfl ?_);refine box_event ?hg (N:=2) ?hd (cs:=#[.slice ah ac.length ai,.slice ak ae.length al]) (t:=25) ?hr ?_;(case hd=>rfl);(case hg=>rfl);(case hr=>(go_simp;try rfl));intro ab hg w9 hbox hb;have am:=qK (qT (by exact HB.out) hb);have an:=qK (hbox);have aq:=qK ((by rw [hg];exact (qZ (by exact HB.out)):w.heap.size≤ab));have av:=aq;clear HB;have HB:=am;have aa:=an;have aw:=aq;have aj:=av;clear am an aq av hb hbox hg;have ax:w9.cell? ⟨ab,0,none⟩=some (.slice ah ac.length ai):=(qC aa.out 0).trans rfl;have ay:w9.cell? ⟨ab,1,none⟩=some (.slice ak ae.length al):=(qC aa.out 1).trans rfl;have az:=qF aa.out 0;have aA:=qF aa.out 1)|((with_reducible refine gate_callee (f:=73) rfl ?_);refine goesL_ (some 8) rfl rfl Try.func73 (by kernel_rfl) rfl #[.slice ah ac.length ai,.int .i64 a1] rfl (by (try simp only [mT,mC,mN]);first|done|rfl|(simp only [lD,lT];rfl)) ?_;(with_reducible refine (laws_szIntS.calls _ _ ac a1 af _ ?side1 ?side2 A3.out).mono ?_);(case side1=>exact (cB ao.out HB.out));(case side2=>exact ap.out);rintro e w' ⟨rfl,⟨nd,rfl⟩⟩;refine ⟨_,rfl,?_⟩)|((with_reducible refine gate_callee (f:=74) rfl ?_);refine goesL_ (some 14) rfl rfl Try.func74 (by kernel_rfl) rfl #[.slice ak ae.length al,.int .i64 af] rfl (by (try simp only [mT,mC,mN]);first|done|rfl|(simp only [lD,lT];rfl)) ?_;(with_reducible refine (laws_szAtomS.calls k _ _ ae af ag _ ?side1 ?side2 A7.out).mono ?_);(case side1=>exact (cB ar.out (by repeat (with_reducible first|exact HB.out|apply qA|apply qD|apply qO|refine qS ?_ aj.out))));(case side2=>exact au.out);rintro e aP ⟨rfl,hb⟩;refine ⟨_,rfl,?_⟩;have am:=qK (qB (g:=ab) (o:=_) (by exact aa.out) hb);have an:=qK (qT (by repeat (with_reducible first|exact HB.out|apply qA|apply qD|apply qO|refine qS ?_ aj.out)) hb);clear aa HB;have aa:=am;have HB:=an;clear am an;(try clear hb)))
   go_ret
   exact ⟨by rfl,HB.out⟩
  ·rw [if_neg c8] at H;have aK:decide (ag < 0)=false:=decide_eq_false c8;clear c8;obtain rfl:=Option.some.inj H;go_enter Try.func14,Try.ntmps14
   go_wp2_with (first|((with_reducible refine gate_dst (N:=2) rfl ?_);refine box_event ?hg (N:=2) ?hd (cs:=#[.slice ah ac.length ai,.slice ak ae.length al]) (t:=25) ?hr ?_;(case hd=>rfl);(case hg=>rfl);(case hr=>(go_simp;try rfl));intro ab hg aN hbox hb;have am:=qK (qT (by exact HB.out) hb);have an:=qK (hbox);have aq:=qK ((by rw [hg];exact (qZ (by exact HB.out)):w.heap.size≤ab));have av:=aq;clear HB;have HB:=am;have aa:=an;have aw:=aq;have aj:=av;clear am an aq av hb hbox hg;have aB:aN.cell? ⟨ab,0,none⟩=some (.slice ah ac.length ai):=(qC aa.out 0).trans rfl;have aC:aN.cell? ⟨ab,1,none⟩=some (.slice ak ae.length al):=(qC aa.out 1).trans rfl;have aD:=qF aa.out 0;have aE:=qF aa.out 1)|((with_reducible refine gate_callee (f:=73) rfl ?_);refine goesL_ (some 8) rfl rfl Try.func73 (by kernel_rfl) rfl #[.slice ah ac.length ai,.int .i64 a1] rfl (by (try simp only [mT,mC,mN]);first|done|rfl|(simp only [lD,lT];rfl)) ?_;(with_reducible refine (laws_szIntS.calls _ _ ac a1 af _ ?side1 ?side2 A3.out).mono ?_);(case side1=>exact (cB ao.out HB.out));(case side2=>exact ap.out);rintro e w' ⟨rfl,⟨nd,rfl⟩⟩;refine ⟨_,rfl,?_⟩)|((with_reducible refine gate_callee (f:=74) rfl ?_);refine goesL_ (some 14) rfl rfl Try.func74 (by kernel_rfl) rfl #[.slice ak ae.length al,.int .i64 af] rfl (by (try simp only [mT,mC,mN]);first|done|rfl|(simp only [lD,lT];rfl)) ?_;(with_reducible refine (laws_szAtomS.calls k _ _ ae af ag _ ?side1 ?side2 A7.out).mono ?_);(case side1=>exact (cB ar.out (by repeat (with_reducible first|exact HB.out|apply qA|apply qD|apply qO|refine qS ?_ aj.out))));(case side2=>exact au.out);rintro e aQ ⟨rfl,hb⟩;refine ⟨_,rfl,?_⟩;have am:=qK (qB (g:=ab) (o:=_) (by exact aa.out) hb);have an:=qK (qT (by repeat (with_reducible first|exact HB.out|apply qA|apply qD|apply qO|refine qS ?_ aj.out)) hb);clear aa HB;have aa:=am;have HB:=an;clear am an;(try clear hb)))
   go_ret
   exact ⟨by rfl,HB.out⟩

/-! ### laws_toIntS: function 17 -/
def laws_toIntS.l0 : Nat→List Int→List Int→Int→Option (List Int)
 | 0,_,_,_=>none
 | k + 1,x0,x3,x4=>if x4 < (x0.length:Int) then (if 0≤x4 then (if x4 < (x3.length:Int) then (laws_toIntS.l0 k x0 (x3.set (x4:Int).toNat (rd x0 x4)) (wrap64 (x4 + 1))) else (none)) else (none)) else (some x3)
def laws_toIntS.f (k:Nat) (l0:List Int):Option (List Int):=if 0≤(l0.length:Int) then (if ((l0.length:Int):Int).toNat≤35184372088832 then (laws_toIntS.l0 k l0 (List.replicate ((l0.length:Int):Int).toNat 0) 0) else (none)) else (none)
theorem laws_toIntS.mono_l : ∀ k,(∀ y0 y1 y2,LeO (laws_toIntS.l0 k y0 y1 y2) (laws_toIntS.l0 (k + 1) y0 y1 y2))
 | 0=>fun _ _ _ r h=>by simp [laws_toIntS.l0] at h
 | k + 1=>by
  have aa:=laws_toIntS.mono_l k
  ·intro y0 y1 y2;unfold laws_toIntS.l0
   repeat' first
   | (with_reducible exact aa _ _ _)
   | (with_reducible exact LeO.refl _)
   | (with_reducible exact LeO.none _)
   | (with_reducible refine LeO.ite ?_ ?_)
   | (with_reducible refine LeO.bind ?_ (fun _=>?_))
   | exact aa _ _ _
   | exact LeO.none _
   | refine LeO.ite ?_ ?_
   | refine LeO.bind ?_ (fun _=>?_)
theorem laws_toIntS.mono : ∀ a0 k,LeO (laws_toIntS.f k a0) (laws_toIntS.f (k + 1) a0):=by
 intro a0 k;have aa:=laws_toIntS.mono_l k;unfold laws_toIntS.f
 repeat' first
   | (with_reducible exact aa _ _ _)
   | (with_reducible exact LeO.refl _)
   | (with_reducible exact LeO.none _)
   | (with_reducible refine LeO.ite ?_ ?_)
   | (with_reducible refine LeO.bind ?_ (fun _=>?_))
   | exact aa _ _ _
   | exact LeO.none _
   | refine LeO.ite ?_ ?_
   | refine LeO.bind ?_ (fun _=>?_)
set_option maxHeartbeats 8000000 in
set_option maxRecDepth 100000 in
theorem laws_toIntS.calls (k:Nat) (A0:Option Addr) (c0:Nat) (l0:List Int) (r:List Int) (w:World) (hr0:Kd.C (Kd.int .i64) w A0 l0.length l0) (hc0:l0.length≤c0) (h:laws_toIntS.f k l0=some r) :
  Calls Try.prog 17 #[.slice A0 l0.length c0] w fun e w'=>∃ aE:Value,e=.returned (aE)∧Kd.R (Kd.int .i64) 3 w' w.heap.size (fun _=>True) aE r∧Below w.heap.size w w':=by
 have aM:=qK hr0;have aS:=qK hc0;clear hr0 hc0;have HB:=qK (Below.refl w.heap.size w);have H:(if 0≤(l0.length:Int) then (if ((l0.length:Int):Int).toNat≤35184372088832 then (laws_toIntS.l0 k l0 (List.replicate ((l0.length:Int):Int).toNat 0) 0) else (none)) else (none))=some r:=h;clear h;by_cases c2:0≤(l0.length:Int)
 ·rw [if_pos c2] at H;have av:=eq_true c2;have aw:decide (0≤(l0.length:Int))=true:=decide_eq_true c2;clear c2;by_cases c3:((l0.length:Int):Int).toNat≤35184372088832
  ·rw [if_pos c3] at H;have ax:=eq_true c3;have ay:decide (((l0.length:Int):Int).toNat≤35184372088832)=true:=decide_eq_true c3;clear c3;obtain ⟨an,ac⟩:∃ y_:List Int,y_=(List.replicate ((l0.length:Int):Int).toNat 0):=⟨_,rfl⟩;replace H:(laws_toIntS.l0 k l0 an 0)=some r:=by first|(rw [ac];with_reducible exact H)|(have ai:=(Option.bind_some _ _).symm.trans H;rw [ac];with_reducible exact ai)|(have ai:=(Option.bind_some _ _).symm.trans H;with_reducible exact ai)|with_reducible exact H|(rw [ac];exact H)|exact H
   have ah:=qK ac;clear ac;have H':=qK H;clear H;go_enter Try.func17,Try.ntmps17
   go_wp2_with (first|((with_reducible refine gate_dst (N:=7) rfl ?_);refine Kd.R_make (Kd.int .i64) _ 3 rfl (N:=7) rfl 22 _ _ rfl (l0.length:Int) rfl rfl Try.underlying22 (.int .i64 0) 8 info3 rfl (by decide) (by omega) 0 (ok:=fun _=>True) (okp:=fun _=>True) rfl (fun _ hk=>hk) trivial (of_decide_eq_true (by assumption)) (Nat.le_trans (Nat.mul_le_mul_right _ (of_decide_eq_true (by assumption):(l0.length:Int).toNat≤35184372088832)) (by omega)) (Below.refl _ _) (Nat.le_refl _) ?_;intro az w4 ao hb hg_ hnew_;clear hg_ hnew_;(first|rw [← ah.out] at ao|(simp only [Int.reduceToNat] at ao;rw [← ah.out] at ao));have ap:=qK (Kd.R_lower ao (qZ HB.out));have aq:=qK (qT HB.out hb);clear HB;have ar:=ap;have HB:=aq;clear ap aq;clear hb ao))
   go_loopg [4] k (fun kq v4 w'=>∃ (ae:List Int) (aa:Int),v4=.int .i64 aa∧Aside0 (laws_toIntS.l0 kq l0 ae aa=some r)∧Aside0 (kq≤k)∧Aside0 (Kd.R (Kd.int .i64) 3 w' w.heap.size (fun _=>True) az ae)∧Aside0 (Below w.heap.size w w'))
   case atStart=>exact ⟨(an),(0),(by rfl),H',⟨Nat.le_refl _⟩,⟨ar.out⟩,⟨HB.out⟩⟩
   case round =>
    clear H';try clear c1
    try clear c2
    try clear av
    try clear aw
    try clear p2
    try clear c3
    try clear ax
    try clear ay
    obtain ⟨ae,aa,rfl,HA,aF,ag,HB⟩:=hrel;cases gk with
    | zero=>exact absurd HA.out (by simp [laws_toIntS.l0])
    | succ k1 =>
     have H:=HA.out;clear HA;simp only [laws_toIntS.l0] at H;by_cases c6:aa < (l0.length:Int)
     ·rw [if_pos c6] at H;have aA:decide (aa < (l0.length:Int))=true:=decide_eq_true c6;clear c6;by_cases c7:0≤aa
      ·rw [if_pos c7] at H;have aN:decide (0≤aa)=true:=decide_eq_true c7;clear c7;by_cases c8:aa < (ae.length:Int)
       ·rw [if_pos c8] at H;have aO:decide (aa < (ae.length:Int))=true:=decide_eq_true c8;clear c8;obtain ⟨aj,af⟩:∃ y_:List Int,y_=(ae.set (aa:Int).toNat (rd l0 aa)):=⟨_,rfl⟩;replace H:(laws_toIntS.l0 k1 l0 aj (wrap64 (aa + 1)))=some r:=by first|(rw [af];with_reducible exact H)|(have ai:=(Option.bind_some _ _).symm.trans H;rw [af];with_reducible exact ai)|(have ai:=(Option.bind_some _ _).symm.trans H;with_reducible exact ai)|with_reducible exact H|(rw [af];exact H)|exact H
        have au:=qK af;clear af;have H':=qK H;clear H;have ak:0≤(aa:Int):=of_decide_eq_true (by assumption);have al:aa < (l0.length:Int):=of_decide_eq_true (by assumption);obtain ⟨aG,aB,ab⟩:=Kd.at_int aM.out aa ak al;cases aB
        replace ab:=(HB.out.cell (World.block_lt_of_cell? w _ ab)).trans ab;replace ak:=eq_true ak;replace al:=eq_true al;have p9:0≤(aa:Int):=of_decide_eq_true (by assumption);have q9:(aa:Int) < ((ae.length:Int):Int):=of_decide_eq_true (by assumption);obtain ⟨aC,aP,aH,aI,aQ,aT,aJ⟩:=Kd.R_form ag.out (by omega);(first|cases aH|(injection aH with ea_ en_ ec_;(first|subst ea_|(injection ea_ with ea_;subst ea_));subst ec_;clear en_));have aR:=qK aI;have aU:=qK aJ;clear aI aQ aJ;obtain ⟨aK,aL⟩:=Kd.R_celln 0 ag.out (aa:Int) p9 q9;replace p9:=eq_true p9;replace q9:=eq_true q9;have am:=Kd.R_putg ag.out (aa:Int) (rd l0 aa);go_wp2_with (first|((with_reducible refine gate_store (t:=3) (p:=20) rfl ?_);refine store_event (t:=3) (p:=20) (v:=?vo_w11) (w1:=(wr.setCell ⟨aC,(aa:Int).toNat,none⟩ (.int .i64 (rd l0 aa)))) ?hg ?ho ?hn ?hr ?_;(case ho=>rfl);(case hg=>rfl);(case hn=>rfl);(case hr=>(go_simp;try rfl));intro aD hw;have hg:wr.grownBy aD (some aC):=(by rw [hw];exact am.2);have hp_:Kd.R (Kd.int .i64) 3 aD w.heap.size (fun _=>True) (.slice (some ⟨aC,0,none⟩) ae.length aP) aj:=(by rw [hw,au.out];exact am.1);clear am;have ap:=qK (hp_);have aq:=qK ((by rw [hw];exact qS (HB.out) aR.out:Below w.heap.size w aD));clear ag HB;have ag:=ap;have HB:=aq;clear ap aq;clear hg hw hp_))
        go_roundg k1
        case measure=>have:=aF.out;omega
        case rel=>exact ⟨(aj),(wrap64 (aa + 1)),(by rfl),H',⟨by have:=aF.out;omega⟩,⟨ag.out⟩,⟨HB.out⟩⟩
       ·rw [if_neg c8] at H;exact absurd H (by simp)
      ·rw [if_neg c7] at H;exact absurd H (by simp)
     ·rw [if_neg c6] at H;have aA:decide (aa < (l0.length:Int))=false:=decide_eq_false c6;clear c6;obtain rfl:=Option.some.inj H;go_wp2
      go_ret
      exact ⟨_,by rfl,ag.out,HB.out⟩
  ·rw [if_neg c3] at H;exact absurd H (by simp)
 ·rw [if_neg c2] at H;exact absurd H (by simp)

/-! ### laws_toAtom: function 142 -/
def laws_toAtom.f (k:Nat) (a0_0:Int) (l0_1:List Int):Option (Int × List Int):=(laws_toIntS.f k l0_1).bind fun t116=>(some (a0_0,t116))
theorem laws_toAtom.mono : ∀ a0 a1 k,LeO (laws_toAtom.f k a0 a1) (laws_toAtom.f (k + 1) a0 a1):=by
 intro a0 a1 k;unfold laws_toAtom.f
 repeat' first
   | (with_reducible exact laws_toIntS.mono _ _)
   | (with_reducible exact LeO.refl _)
   | (with_reducible exact LeO.none _)
   | (with_reducible refine LeO.ite ?_ ?_)
   | (with_reducible refine LeO.bind ?_ (fun _=>?_))
   | exact laws_toIntS.mono _ _
   | exact LeO.none _
   | refine LeO.ite ?_ ?_
   | refine LeO.bind ?_ (fun _=>?_)
set_option maxHeartbeats 8000000 in
set_option maxRecDepth 100000 in
theorem laws_toAtom.calls (k:Nat) (ai:Int) (ap:Option Addr) (aq:Nat) (aj:List Int) (r1:Int) (r2:List Int) (w:World) (hr0_1:Kd.C (Kd.int .i64) w ap aj.length aj) (hc0_1:aj.length≤aq) (h:laws_toAtom.f k ai aj=some (r1,r2)) :
  Calls Try.prog 142 #[.agg #[.int .i64 ai,.slice ap aj.length aq]] w fun e w'=>∃ bc:Value,e=.returned (.agg #[.int .i64 r1,bc])∧Kd.R (Kd.int .i64) 3 w' w.heap.size (fun _=>True) bc r2∧Below w.heap.size w w':=by
 have bd:=Try.underlying158;have bk:=Try.underlying97;have aH:=qK hr0_1;have aI:=qK hc0_1;clear hr0_1 hc0_1;have HB:=qK (Below.refl w.heap.size w);have H:((laws_toIntS.f k aj).bind fun al=>(some (ai,al)))=some (r1,r2):=h;clear h;replace H:=Option.bind_eq_some_iff.mp H;obtain ⟨al,be,H⟩:=H;replace H:(some (ai,al))=some (r1,r2):=H;have A2:=qK be;clear be;simp only [Option.some.injEq,Prod.mk.injEq] at H;obtain ⟨rfl,rfl⟩:=H;go_enter Try.func142,Try.ntmps142
 go_wp2_with (first|((with_reducible refine gate_dst (N:=1) rfl ?_);refine box_event ?hg (N:=1) ?hd (cs:=#[.int .i64 ai,.slice ap aj.length aq]) (t:=158) ?hr ?_;(case hd=>rfl);(case hg=>rfl);(case hr=>(go_simp;try rfl));intro af hg w3 hbox hb;have az:=qK (qT HB.out hb);have aA:=qK (hbox);have ax:=qK ((by rw [hg];exact (qZ HB.out):w.heap.size≤af));have ay:=ax;clear HB;have HB:=az;have aa:=aA;have bf:=ax;have am:=ay;clear az aA ax ay;clear hb hbox hg)|((with_reducible refine gate_dst (N:=2) rfl ?_);refine box_event ?hg (N:=2) ?hd (cs:=#[.int .i64 0,.slice none 0 0]) (t:=97) ?hr ?_;(case hd=>rfl);(case hg=>rfl);(case hr=>(go_simp;try rfl));intro ae hg w4 hbox hb;have az:=qK (qB (g:=af) (o:=_) aa.out hb);have aA:=qK (qT HB.out hb);have ax:=qK (hbox);have ay:=qK ((by rw [hg];exact (qZ HB.out):w.heap.size≤ae));have aB:=ay;have aF:=qK ((by rw [hg];exact Nat.ne_of_lt (blk_lt (g:=af) (o:=_) aa.out):af ≠ ae));have aG:=qK aF.out.symm;clear aa HB;have aa:=az;have HB:=aA;have ab:=ax;have bg:=ay;have an:=aB;have ar:=aF;have au:=aG;clear az aA ax ay aB aF aG;clear hb hbox hg)|((with_reducible refine gate_dst (N:=3) rfl ?_);refine box_event ?hg (N:=3) ?hd (cs:=#[.int .i64 0,.slice none 0 0]) (t:=97) ?hr ?_;(case hd=>rfl);(case hg=>rfl);(case hr=>(go_simp;try rfl));intro ag hg w5 hbox hb;have az:=qK (qB (g:=af) (o:=_) aa.out hb);have aA:=qK (qB (g:=ae) (o:=_) ab.out hb);have ax:=qK (qT HB.out hb);have ay:=qK (hbox);have aB:=qK ((by rw [hg];exact (qZ HB.out):w.heap.size≤ag));have aF:=aB;have aG:=qK ((by rw [hg];exact Nat.ne_of_lt (blk_lt (g:=af) (o:=_) aa.out):af ≠ ag));have bh:=qK aG.out.symm;have aW:=qK ((by rw [hg];exact Nat.ne_of_lt (blk_lt (g:=ae) (o:=_) ab.out):ae ≠ ag));have bi:=qK aW.out.symm;clear aa ab HB;have aa:=az;have ab:=aA;have HB:=ax;have ac:=ay;have bj:=aB;have ao:=aF;have ak:=aG;have av:=bh;have ah:=aW;have aw:=bi;clear az aA ax ay aB aF aG bh aW bi hb hbox hg;have bl:=ar.out;have bm:=au.out;have bn:=ak.out;have bo:=av.out;have aX:w5.cell? ⟨af,0,none⟩=some (.int .i64 ai):=(qC aa.out 0).trans rfl;have aY:w5.cell? ⟨af,1,none⟩=some (.slice ap aj.length aq):=(qC aa.out 1).trans rfl;have aZ:=qF aa.out 0;have ba:=qF aa.out 1;have bp:=aw.out;have bq:=ah.out;have aJ:w5.cell? ⟨ag,0,none⟩=some (.int .i64 0):=(qC ac.out 0).trans rfl;have aK:w5.cell? ⟨ag,1,none⟩=some (.slice none 0 0):=(qC ac.out 1).trans rfl;have aL:=qF ac.out 0;have aM:=qF ac.out 1)|((with_reducible refine gate_callee (f:=17) rfl ?_);refine goesL_ (some 9) rfl rfl Try.func17 (by kernel_rfl) rfl #[.slice ap aj.length aq] rfl (by (try simp only [mT,mC,mN]);first|done|rfl|(simp only [lD,lT];rfl)) ?_;(with_reducible refine (laws_toIntS.calls k _ _ aj al _ ?side1 ?side2 A2.out).mono ?_);(case side1=>exact cB aH.out (by repeat (with_reducible first|exact HB.out|apply qA|apply qD|apply qO|refine qS ?_ am.out|refine qS ?_ an.out|refine qS ?_ ao.out)));(case side2=>exact aI.out);rintro e aN ⟨br,rfl,ho0,hb⟩;refine ⟨_,rfl,?_⟩;have az:=qK (Kd.R_lower ho0 (qZ (by repeat (with_reducible first|exact HB.out|apply qA|apply qD|apply qO|refine qS ?_ am.out|refine qS ?_ an.out|refine qS ?_ ao.out))));have aA:=qK (qB (g:=af) (o:=.cells #[.int .i64 ai,.slice ap aj.length aq] 158 (0,0)) (by (with_reducible repeat (first|refine qN ?_ _|refine qW ?_|refine qL ?_ _));refine qR ?_ ak.out _;(with_reducible repeat (first|refine qN ?_ _|refine qW ?_|refine qL ?_ _));exact aa.out) hb);have ax:=qK (qB (g:=ae) (o:=.cells #[.int .i64 0,.slice none 0 0] 97 (0,0)) (by (with_reducible repeat (first|refine qN ?_ _|refine qW ?_|refine qL ?_ _));refine qR ?_ ah.out _;(with_reducible repeat (first|refine qN ?_ _|refine qW ?_|refine qL ?_ _));exact ab.out) hb);have ay:=qK (qB (g:=ag) (o:=.cells #[.int .i64 ai,.slice none 0 0] 97 (0,0)) (by (with_reducible repeat (first|refine qN ?_ _|refine qW ?_|refine qL ?_ _));refine qP (cs:=#[.int .i64 0,.slice none 0 0]) ?_ 0 _ rfl;(with_reducible repeat (first|refine qN ?_ _|refine qW ?_|refine qL ?_ _));exact ac.out) hb);have aB:=qK (qT (by repeat (with_reducible first|exact HB.out|apply qA|apply qD|apply qO|refine qS ?_ am.out|refine qS ?_ an.out|refine qS ?_ ao.out)) hb);clear aa ab ac HB;have aC:=az;have aa:=aA;have ab:=ax;have ac:=ay;have HB:=aB;clear az aA ax ay aB;(try clear hb);(try clear ho0);obtain ⟨aD,aE,bb⟩:=Kd.R_slice aC.out;subst bb;have aO:aN.cell? ⟨ag,0,none⟩=some (.int .i64 ai):=(qC ac.out 0).trans rfl;have aP:aN.cell? ⟨ag,1,none⟩=some (.slice none 0 0):=(qC ac.out 1).trans rfl;have aQ:=qF ac.out 0;have aR:=qF ac.out 1;have aS:aN.cell? ⟨ae,0,none⟩=some (.int .i64 0):=(qC ab.out 0).trans rfl;have aT:aN.cell? ⟨ae,1,none⟩=some (.slice none 0 0):=(qC ab.out 1).trans rfl;have aU:=qF ab.out 0;have aV:=qF ab.out 1))
 refine bodyPost_ret (results_cell_row rfl _ _ ae 97 #[.int .i64 ai,.slice aD al.length aE] (0,0) _ rfl (by (with_reducible repeat (first|refine qN ?_ _|refine qW ?_|refine qL ?_ _));refine qP (cs:=#[.int .i64 ai,.slice none 0 0]) ?_ 1 _ rfl;(with_reducible repeat (first|refine qN ?_ _|refine qW ?_|refine qL ?_ _));refine qP (cs:=#[.int .i64 0,.slice none 0 0]) ?_ 0 _ rfl;(with_reducible repeat (first|refine qN ?_ _|refine qW ?_|refine qL ?_ _));refine qR ?_ ah.out _;(with_reducible repeat (first|refine qN ?_ _|refine qW ?_|refine qL ?_ _));exact ab.out) Try.underlying97 rfl (by kernel_rfl)) rfl ?_;exact ⟨_,by rfl,Kd.R_mono (Kd.R_far (p:=⟨ae,1,none⟩) (Kd.R_far (p:=⟨ae,0,none⟩) (Kd.R_far (p:=⟨ag,1,none⟩) (Kd.R_types (Kd.R_types aC.out ac.out (by decide)) ab.out (by decide)) (fun _ hk=>hk.1.2) (.slice aD al.length aE)) (fun _ hk=>hk.2) (.int .i64 ai)) (fun _ hk=>hk.2) (.slice aD al.length aE)) (fun _ hk=>trivial),by repeat (first|(with_reducible first|exact HB.out|apply qA|apply qD|apply qO|refine qS ?_ am.out|refine qS ?_ an.out|refine qS ?_ ao.out)|exact HB.out)⟩

/-! ### laws_toAtomS: function 77 -/
def laws_toAtomS.l0 : Nat→List (S158)→List (S97)→Int→Option ((List (S97)))
 | 0,_,_,_=>none
 | k + 1,x0,x3,x4=>if x4 < (x0.length:Int) then (if 0≤x4 then ((laws_toAtom.f k ((rd_T158 x0 x4).f0) ((rd_T158 x0 x4).f1)).bind fun bt123=>(if x4 < (x3.length:Int) then (laws_toAtomS.l0 k x0 (x3.set (x4:Int).toNat (⟨bt123.1,bt123.2⟩:S97)) (wrap64 (x4 + 1))) else (none))) else (none)) else (some x3)
def laws_toAtomS.f (k:Nat) (l0:List (S158)):Option ((List (S97))):=if 0≤(l0.length:Int) then (if ((l0.length:Int):Int).toNat≤8796093022208 then (laws_toAtomS.l0 k l0 (List.replicate ((l0.length:Int):Int).toNat z97) 0) else (none)) else (none)
theorem laws_toAtomS.mono_l : ∀ k,(∀ y0 y1 y2,LeO (laws_toAtomS.l0 k y0 y1 y2) (laws_toAtomS.l0 (k + 1) y0 y1 y2))
 | 0=>fun _ _ _ r h=>by simp [laws_toAtomS.l0] at h
 | k + 1=>by
  have aa:=laws_toAtomS.mono_l k
  ·intro y0 y1 y2;unfold laws_toAtomS.l0
   repeat' first
   | (with_reducible exact aa _ _ _)
   | (with_reducible exact laws_toAtom.mono _ _ _)
   | (with_reducible exact LeO.refl _)
   | (with_reducible exact LeO.none _)
   | (with_reducible refine LeO.ite ?_ ?_)
   | (with_reducible refine LeO.bind ?_ (fun _=>?_))
   | exact aa _ _ _
   | exact laws_toAtom.mono _ _ _
   | exact LeO.none _
   | refine LeO.ite ?_ ?_
   | refine LeO.bind ?_ (fun _=>?_)
theorem laws_toAtomS.mono : ∀ a0 k,LeO (laws_toAtomS.f k a0) (laws_toAtomS.f (k + 1) a0):=by
 intro a0 k;have aa:=laws_toAtomS.mono_l k;unfold laws_toAtomS.f
 repeat' first
   | (with_reducible exact aa _ _ _)
   | (with_reducible exact laws_toAtom.mono _ _ _)
   | (with_reducible exact LeO.refl _)
   | (with_reducible exact LeO.none _)
   | (with_reducible refine LeO.ite ?_ ?_)
   | (with_reducible refine LeO.bind ?_ (fun _=>?_))
   | exact aa _ _ _
   | exact laws_toAtom.mono _ _ _
   | exact LeO.none _
   | refine LeO.ite ?_ ?_
   | refine LeO.bind ?_ (fun _=>?_)
set_option maxHeartbeats 8000000 in
set_option maxRecDepth 100000 in
theorem laws_toAtomS.calls (k:Nat) (A0:Option Addr) (c0:Nat) (l0:List (S158)) (r:List (S97)) (w:World) (hr0:Kd.C k158 w A0 l0.length l0) (hc0:l0.length≤c0) (h:laws_toAtomS.f k l0=some r) :
  Calls Try.prog 77 #[.slice A0 l0.length c0] w fun e w'=>∃ bw:Value,e=.returned (bw)∧Kd.S k97 97 w' w.heap.size (fun _=>True) bw r∧Below w.heap.size w w':=by
 have bx:=Try.underlying158;have bE:=Try.underlying97;have bF:=qK hr0;have bN:=qK hc0;clear hr0 hc0;have HB:=qK (Below.refl w.heap.size w);have H:(if 0≤(l0.length:Int) then (if ((l0.length:Int):Int).toNat≤8796093022208 then (laws_toAtomS.l0 k l0 (List.replicate ((l0.length:Int):Int).toNat z97) 0) else (none)) else (none))=some r:=h;clear h;by_cases c2:0≤(l0.length:Int)
 ·rw [if_pos c2] at H;have bd:=eq_true c2;have be:decide (0≤(l0.length:Int))=true:=decide_eq_true c2;clear c2;by_cases c3:((l0.length:Int):Int).toNat≤8796093022208
  ·rw [if_pos c3] at H;have bf:=eq_true c3;have bg:decide (((l0.length:Int):Int).toNat≤8796093022208)=true:=decide_eq_true c3;clear c3;obtain ⟨aP,ak⟩:∃ y_:List (S97),y_=(List.replicate ((l0.length:Int):Int).toNat z97):=⟨_,rfl⟩;replace H:(laws_toAtomS.l0 k l0 aP 0)=some r:=by first|(rw [ak];with_reducible exact H)|(have aB:=(Option.bind_some _ _).symm.trans H;rw [ak];with_reducible exact aB)|(have aB:=(Option.bind_some _ _).symm.trans H;with_reducible exact aB)|with_reducible exact H|(rw [ak];exact H)|exact H
   have ay:=qK ak;clear ak;have H':=qK H;clear H;go_enter Try.func77,Try.ntmps77
   go_wp2_with (first|((with_reducible refine gate_dst (N:=7) rfl ?_);refine Kd.S_make k97 _ 97 rfl (N:=7) rfl 30 _ _ rfl (l0.length:Int) rfl rfl Try.underlying30 (.agg #[(.int .i64 0),(.slice none 0 0)]) 32 info97 rfl (by decide) (by omega) z97 (ok:=fun _=>True) (okp:=fun _=>True) (k97_mkM _ _ _ z97 (Kd.R_nil _ _ _ _ _)) (fun _ hk=>hk) trivial (of_decide_eq_true (by assumption)) (Nat.le_trans (Nat.mul_le_mul_right _ (of_decide_eq_true (by assumption):(l0.length:Int).toNat≤8796093022208)) (by omega)) (Below.refl _ _) (Nat.le_refl _) ?_;intro bh w4 aQ hb hg_ hnew_;clear hg_ hnew_;(first|rw [← ay.out] at aQ|(simp only [Int.reduceToNat] at aQ;rw [← ay.out] at aQ));have az:=qK (Kd.S_lower aQ (qZ HB.out));have aA:=qK (qT HB.out hb);clear HB;have aR:=az;have HB:=aA;clear az aA;clear hb aQ))
   go_loopg [4] k (fun kq v4 w'=>∃ (ac:List (S97)) (aa:Int),v4=.int .i64 aa∧Aside0 (laws_toAtomS.l0 kq l0 ac aa=some r)∧Aside0 (kq≤k)∧Aside0 (Kd.S k97 97 w' w.heap.size (fun _=>True) bh ac)∧Aside0 (Below w.heap.size w w'))
   case atStart=>exact ⟨(aP),(0),(by rfl),H',⟨Nat.le_refl _⟩,⟨aR.out⟩,⟨HB.out⟩⟩
   case round =>
    clear H';try clear c2
    try clear bd
    try clear be
    try clear p2
    try clear c3
    try clear bf
    try clear bg
    obtain ⟨ac,aa,rfl,HA,bz,ab,HB⟩:=hrel;cases gk with
    | zero=>exact absurd HA.out (by simp [laws_toAtomS.l0])
    | succ k1 =>
     have H:=HA.out;clear HA;simp only [laws_toAtomS.l0] at H;by_cases c6:aa < (l0.length:Int)
     ·rw [if_pos c6] at H;have bi:decide (aa < (l0.length:Int))=true:=decide_eq_true c6;clear c6;by_cases c7:0≤aa
      ·rw [if_pos c7] at H;have bG:decide (0≤aa)=true:=decide_eq_true c7;clear c7;replace H:=Option.bind_eq_some_iff.mp H;obtain ⟨⟨am,af⟩,bA,H⟩:=H;replace H:(if aa < (ac.length:Int) then (laws_toAtomS.l0 k1 l0 (ac.set (aa:Int).toNat (⟨am,af⟩:S97)) (wrap64 (aa + 1))) else (none))=some r:=H;have A8:=qK bA;clear bA;by_cases c9:aa < (ac.length:Int)
       ·rw [if_pos c9] at H;have bH:decide (aa < (ac.length:Int))=true:=decide_eq_true c9;clear c9;obtain ⟨aC,al⟩:∃ y_:List (S97),y_=(ac.set (aa:Int).toNat (⟨am,af⟩:S97)):=⟨_,rfl⟩;replace H:(laws_toAtomS.l0 k1 l0 aC (wrap64 (aa + 1)))=some r:=by first|(rw [al];with_reducible exact H)|(have aB:=(Option.bind_some _ _).symm.trans H;rw [al];with_reducible exact aB)|(have aB:=(Option.bind_some _ _).symm.trans H;with_reducible exact aB)|with_reducible exact H|(rw [al];exact H)|exact H
        have aS:=qK al;clear al;have H':=qK H;clear H;have aD:0≤(aa:Int):=of_decide_eq_true (by assumption);have aE:aa < (l0.length:Int):=of_decide_eq_true (by assumption);obtain ⟨bB,aF,aG,bj,ag,ah,an,ao⟩:=at_T158 bF.out aa aD aE;cases bj
        replace ag:=(HB.out.cell (World.block_lt_of_cell? w _ ag)).trans ag;replace ah:=(HB.out.cell (World.block_lt_of_cell? w _ ah)).trans ah;have aw:=qK ao;have ax:=qK an;clear ao an;replace aD:=eq_true aD;replace aE:=eq_true aE;go_wp2_with (first|((with_reducible refine gate_callee (f:=142) rfl ?_);refine goesL_ (some 20) rfl rfl Try.func142 (by kernel_rfl) rfl #[.agg #[.int .i64 ((rd_T158 l0 aa).f0),.slice aF ((rd_T158 l0 aa).f1).length aG]] rfl (by (try simp only [mT,mC,mN]);first|done|rfl|(simp only [lD,lT];rfl)) ?_;(with_reducible refine (laws_toAtom.calls k1 ((rd_T158 l0 aa).f0) _ _ ((rd_T158 l0 aa).f1) am af _ ?side1 ?side2 A8.out).mono ?_);(case side1=>exact (cB aw.out HB.out));(case side2=>exact ax.out);rintro e aH ⟨bI,rfl,ho0,hb⟩;refine ⟨_,rfl,?_⟩;have az:=qK (Kd.S_elder' ab.out (Kd.R_base ho0) hb);have aA:=qK (Kd.R_lower ho0 (qZ HB.out));have bC:=qK (qT HB.out hb);clear ab HB;have ab:=az;have ap:=aA;have HB:=bC;clear az aA bC;(try clear hb);(try clear ho0);obtain ⟨ai,aj,aI⟩:=Kd.R_slice ap.out;subst aI;have bk:0≤(aa:Int):=of_decide_eq_true (by assumption);have bl:(aa:Int) < ((ac.length:Int):Int):=of_decide_eq_true (by assumption);obtain ⟨ae,aT,aU,aV,bm,bJ,aW⟩:=Kd.S_form ab.out (by omega);(first|cases aU|(injection aU with ea_ en_ ec_;(first|subst ea_|(injection ea_ with ea_;subst ea_));subst ec_;clear en_));have aX:=qK aV;have bK:=qK aW;clear aV bm aW;obtain ⟨_,bL,aY,aZ,aq,ar,_,_⟩:=Kd.S_elem ab.out z97 (aa:Int) bk bl;obtain ⟨aJ,rfl,bn⟩:=k97_openM aZ;have bo:aH.cell? ⟨ae,(aa:Int).toNat * 2,none⟩=some (.int .i64 ((rd_T97 ac aa).f0)):=aq 0 _ rfl;have bp:aH.cell? ⟨ae,(aa:Int).toNat * 2 + 1,none⟩=some (aJ):=aq 1 _ rfl;have bq:aH.frozen? ⟨ae,(aa:Int).toNat * 2,none⟩=false:=ar 0;have br:aH.frozen? ⟨ae,(aa:Int).toNat * 2 + 1,none⟩=false:=ar 1;clear aY aq ar aZ;replace bk:=eq_true bk;replace bl:=eq_true bl;have n_:=qK (Kd.S_mono (ok':=(fun k_=>some k_ ≠ ((.slice ai af.length aj):Value).ownBlock)) ab.out (fun k_ hk=>hk.2));clear ab;have ab:=n_;clear n_;have bs:=qK (show Kd.S k97 97 aH w.heap.size (fun k_=>((fun _=>True)) k_∧¬ ((fun k_=>some k_=((.slice ai af.length aj):Value).ownBlock)) k_) (.slice (some ⟨ae,0,none⟩) ac.length aT) ac from (Kd.S_mono ab.out (fun k_ hk=>⟨trivial,fun e_=>hk e_⟩)));obtain ⟨bD,bM,ba,bb,au,av,hoki12,bc⟩:=Kd.S_elem bs.out z97 (aa:Int) (of_decide_eq_true (by assumption)) (by have h_:(aa:Int) < ((ac.length:Int):Int):=of_decide_eq_true (by assumption);first|exact h_|(have e_:=(Kd.S_reads' ab.out).1;omega)|simpa using h_);obtain ⟨bt,rfl,bu⟩:=k97_openM bb;have aK:=Kd.S_seg bc (of_decide_eq_true (by assumption)) (by have h_:(aa:Int) < ((ac.length:Int):Int):=of_decide_eq_true (by assumption);first|exact h_|(have e_:=(Kd.S_reads' ab.out).1;omega)|simpa using h_) (seg:=[.int .i64 am,(.slice ai af.length aj)]) (j:=0) (show 2≤2 from by decide) (x':=(⟨am,af⟩:S97)) (k97_mkM _ _ _ (⟨am,af⟩:S97) (Kd.R_mono (Kd.R_tight rfl (Kd.R_mono (ok':=fun k_=>((fun _=>True)) k_∧k_ ≠ ae) (Kd.R_apart' (ap.out) (Kd.S_typed ab.out) (by decide)) (fun k_ hk=>⟨trivial,fun e_=>(hk.2) (by rw [e_];rfl)⟩))) (fun _ h_=>Or.inr (h_)))) (fun _ hk=>hk) (fun k_ hk_=>((Kd.R_mono (ok':=fun k_=>((fun _=>True)) k_∧k_ ≠ ae) (Kd.R_apart' (ap.out) (Kd.S_typed ab.out) (by decide)) (fun k_ hk=>⟨trivial,fun e_=>(hk.2) (by rw [e_];rfl)⟩))).1 k_ hk_.symm);have aL:=au 0 _ rfl;(try simp only [show (k97).sz=2 from rfl,Nat.mul_one,Nat.add_zero] at aL);have aM:=av 0;(try simp only [show (k97).sz=2 from rfl,Nat.mul_one,Nat.add_zero] at aM);have aN:=au 1 _ rfl;(try simp only [show (k97).sz=2 from rfl,Nat.mul_one,Nat.add_zero] at aN);have aO:=av 1;(try simp only [show (k97).sz=2 from rfl,Nat.mul_one,Nat.add_zero] at aO);clear ba au av bb hoki12 bc)|((with_reducible refine gate_store (t:=97) (p:=21) rfl ?_);refine store_event (t:=97) (p:=21) (v:=?vo_w13) (w1:=((aH.setCell ⟨ae,(aa:Int).toNat * 2,none⟩ (.int .i64 am)).setCell ⟨ae,(aa:Int).toNat * 2 + 1,none⟩ ((.slice ai af.length aj)))) ?hg ?ho ?hn ?hr ?_;(case ho=>rfl);(case hg=>rfl);(case hn=>rfl);(case hr=>(go_simp;try rfl));intro bv hw;have hg:aH.grownBy bv (some ae):=(by rw [hw];exact aK.2);have hp_:Kd.S k97 97 bv w.heap.size (fun _=>True) (.slice (some ⟨ae,0,none⟩) ac.length aT) aC:=(by rw [hw,aS.out];exact aK.1);clear aK;have az:=qK (hp_);have aA:=qK ((by rw [hw];exact qS (qS (HB.out) aX.out) aX.out:Below w.heap.size w bv));clear ab HB ap;have ab:=az;have HB:=aA;clear az aA;clear hg hw hp_))
        go_roundg k1
        case measure=>have:=bz.out;omega
        case rel=>exact ⟨(aC),(wrap64 (aa + 1)),(by rfl),H',⟨by have:=bz.out;omega⟩,⟨ab.out⟩,⟨HB.out⟩⟩
       ·rw [if_neg c9] at H;exact absurd H (by simp)
      ·rw [if_neg c7] at H;exact absurd H (by simp)
     ·rw [if_neg c6] at H;have bi:decide (aa < (l0.length:Int))=false:=decide_eq_false c6;clear c6;obtain rfl:=Option.some.inj H;go_wp2
      go_ret
      exact ⟨_,by rfl,ab.out,HB.out⟩
  ·rw [if_neg c3] at H;exact absurd H (by simp)
 ·rw [if_neg c2] at H;exact absurd H (by simp)

/-! ### laws_toQuery: function 16 -/
def laws_toQuery.f (k:Nat) (l0_0:List Int) (l0_1:List (S158)):Option (List Int × (List (S97))):=(laws_toIntS.f k l0_0).bind fun t131=>((laws_toAtomS.f k l0_1).bind fun t134=>(some (t131,t134)))
theorem laws_toQuery.mono : ∀ a0 a1 k,LeO (laws_toQuery.f k a0 a1) (laws_toQuery.f (k + 1) a0 a1):=by
 intro a0 a1 k;unfold laws_toQuery.f
 repeat' first
   | (with_reducible exact laws_toAtomS.mono _ _)
   | (with_reducible exact laws_toIntS.mono _ _)
   | (with_reducible exact LeO.refl _)
   | (with_reducible exact LeO.none _)
   | (with_reducible refine LeO.ite ?_ ?_)
   | (with_reducible refine LeO.bind ?_ (fun _=>?_))
   | exact laws_toAtomS.mono _ _
   | exact laws_toIntS.mono _ _
   | exact LeO.none _
   | refine LeO.ite ?_ ?_
   | refine LeO.bind ?_ (fun _=>?_)
set_option maxHeartbeats 8000000 in
set_option maxRecDepth 100000 in
theorem laws_toQuery.calls (k:Nat) (aq:Option Addr) (ar:Nat) (ak:List Int) (au:Option Addr) (av:Nat) (ah:List (S158)) (r1:List Int) (r2:List (S97)) (w:World) (hr0_0:Kd.C (Kd.int .i64) w aq ak.length ak) (hc0_0:ak.length≤ar) (hr0_1:Kd.C k158 w au ah.length ah) (hc0_1:ah.length≤av) (h:laws_toQuery.f k ak ah=some (r1,r2)) :
  Calls Try.prog 16 #[.agg #[.slice aq ak.length ar,.slice au ah.length av]] w fun e w'=>∃ bj br:Value,e=.returned (.agg #[bj,br])∧Kd.R (Kd.int .i64) 3 w' w.heap.size (fun _=>True) bj r1∧Kd.S k97 97 w' w.heap.size (fun k_=>some k_ ≠ (bj:Value).ownBlock) br r2∧Below w.heap.size w w':=by
 have bC:=Try.underlying25;have bD:=Try.underlying32;have aN:=qK hr0_0;have aO:=qK hc0_0;clear hr0_0 hc0_0;have aP:=qK hr0_1;have aQ:=qK hc0_1;clear hr0_1 hc0_1;have HB:=qK (Below.refl w.heap.size w);have H:((laws_toIntS.f k ak).bind fun ai=>((laws_toAtomS.f k ah).bind fun al=>(some (ai,al))))=some (r1,r2):=h;clear h;replace H:=Option.bind_eq_some_iff.mp H;obtain ⟨ai,bs,H⟩:=H;replace H:((laws_toAtomS.f k ah).bind fun al=>(some (ai,al)))=some (r1,r2):=H;have A2:=qK bs;clear bs;replace H:=Option.bind_eq_some_iff.mp H;obtain ⟨al,bt,H⟩:=H;replace H:(some (ai,al))=some (r1,r2):=H;have A3:=qK bt;clear bt;simp only [Option.some.injEq,Prod.mk.injEq] at H;obtain ⟨rfl,rfl⟩:=H;go_enter Try.func16,Try.ntmps16
 go_wp2_with (first|((with_reducible refine gate_dst (N:=1) rfl ?_);refine box_event ?hg (N:=1) ?hd (cs:=#[.slice aq ak.length ar,.slice au ah.length av]) (t:=25) ?hr ?_;(case hd=>rfl);(case hg=>rfl);(case hr=>(go_simp;try rfl));intro af hg w4 hbox hb;have ay:=qK (qT HB.out hb);have az:=qK (hbox);have aw:=qK ((by rw [hg];exact (qZ HB.out):w.heap.size≤af));have ax:=aw;clear HB;have HB:=ay;have aa:=az;have bu:=aw;have aA:=ax;clear ay az aw ax;clear hb hbox hg)|((with_reducible refine gate_dst (N:=2) rfl ?_);refine box_event ?hg (N:=2) ?hd (cs:=#[.slice none 0 0,.slice none 0 0]) (t:=32) ?hr ?_;(case hd=>rfl);(case hg=>rfl);(case hr=>(go_simp;try rfl));intro ae hg w5 hbox hb;have ay:=qK (qB (g:=af) (o:=_) aa.out hb);have az:=qK (qT HB.out hb);have aw:=qK (hbox);have ax:=qK ((by rw [hg];exact (qZ HB.out):w.heap.size≤ae));have aH:=ax;have aK:=qK ((by rw [hg];exact Nat.ne_of_lt (blk_lt (g:=af) (o:=_) aa.out):af ≠ ae));have aM:=qK aK.out.symm;clear aa HB;have aa:=ay;have HB:=az;have ac:=aw;have bv:=ax;have aB:=aH;have aD:=aK;have aE:=aM;clear ay az aw ax aH aK aM;clear hb hbox hg)|((with_reducible refine gate_dst (N:=3) rfl ?_);refine box_event ?hg (N:=3) ?hd (cs:=#[.slice none 0 0,.slice none 0 0]) (t:=32) ?hr ?_;(case hd=>rfl);(case hg=>rfl);(case hr=>(go_simp;try rfl));intro ag hg w6 hbox hb;have ay:=qK (qB (g:=af) (o:=_) aa.out hb);have az:=qK (qB (g:=ae) (o:=_) ac.out hb);have aw:=qK (qT HB.out hb);have ax:=qK (hbox);have aH:=qK ((by rw [hg];exact (qZ HB.out):w.heap.size≤ag));have aK:=aH;have aM:=qK ((by rw [hg];exact Nat.ne_of_lt (blk_lt (g:=af) (o:=_) aa.out):af ≠ ag));have bw:=qK aM.out.symm;have bk:=qK ((by rw [hg];exact Nat.ne_of_lt (blk_lt (g:=ae) (o:=_) ac.out):ae ≠ ag));have bx:=qK bk.out.symm;clear aa ac HB;have aa:=ay;have ac:=az;have HB:=aw;have ab:=ax;have bz:=aH;have aC:=aK;have am:=aM;have aF:=bw;have aj:=bk;have aG:=bx;clear ay az aw ax aH aK aM bw bk bx hb hbox hg;have bE:=aD.out;have bF:=aE.out;have bG:=am.out;have bH:=aF.out;have bl:w6.cell? ⟨af,0,none⟩=some (.slice aq ak.length ar):=(qC aa.out 0).trans rfl;have bm:w6.cell? ⟨af,1,none⟩=some (.slice au ah.length av):=(qC aa.out 1).trans rfl;have bn:=qF aa.out 0;have bo:=qF aa.out 1)|((with_reducible refine gate_callee (f:=17) rfl ?_);refine goesL_ (some 6) rfl rfl Try.func17 (by kernel_rfl) rfl #[.slice aq ak.length ar] rfl (by (try simp only [mT,mC,mN]);first|done|rfl|(simp only [lD,lT];rfl)) ?_;(with_reducible refine (laws_toIntS.calls k _ _ ak ai _ ?side1 ?side2 A2.out).mono ?_);(case side1=>exact (cB aN.out HB.out));(case side2=>exact aO.out);rintro e aR ⟨bI,rfl,ho0,hb⟩;refine ⟨_,rfl,?_⟩;have ay:=qK (Kd.R_lower ho0 (qZ HB.out));have az:=qK (qB (g:=af) (o:=_) aa.out hb);have aw:=qK (qB (g:=ae) (o:=_) ac.out hb);have ax:=qK (qB (g:=ag) (o:=_) ab.out hb);have aH:=qK (qT HB.out hb);clear aa ac ab HB;have an:=ay;have aa:=az;have ac:=aw;have ab:=ax;have HB:=aH;clear ay az aw ax aH;(try clear hb);(try clear ho0);obtain ⟨ao,ap,bp⟩:=Kd.R_slice an.out;subst bp;have bA:=aG.out;have bB:=aj.out;have aS:aR.cell? ⟨ag,0,none⟩=some (.slice none 0 0):=(qC ab.out 0).trans rfl;have aT:aR.cell? ⟨ag,1,none⟩=some (.slice none 0 0):=(qC ab.out 1).trans rfl;have aU:=qF ab.out 0;have aV:=qF ab.out 1;have aW:aR.cell? ⟨af,0,none⟩=some (.slice aq ak.length ar):=(qC aa.out 0).trans rfl;have aX:aR.cell? ⟨af,1,none⟩=some (.slice au ah.length av):=(qC aa.out 1).trans rfl;have aY:=qF aa.out 0;have aZ:=qF aa.out 1)|((with_reducible refine gate_callee (f:=77) rfl ?_);refine goesL_ (some 10) rfl rfl Try.func77 (by kernel_rfl) rfl #[.slice au ah.length av] rfl (by (try simp only [mT,mC,mN]);first|done|rfl|(simp only [lD,lT];rfl)) ?_;(with_reducible refine (laws_toAtomS.calls k _ _ ah al _ ?side1 ?side2 A3.out).mono ?_);(case side1=>exact cB aP.out (by repeat (with_reducible first|exact HB.out|apply qA|apply qD|apply qO|refine qS ?_ aA.out|refine qS ?_ aB.out|refine qS ?_ aC.out)));(case side2=>exact aQ.out);rintro e ba ⟨bJ,rfl,ho0,hb⟩;refine ⟨_,rfl,?_⟩;have ay:=qK (rB ((Kd.R_mono (Kd.R_far (p:=⟨ag,0,none⟩) (Kd.R_types an.out ab.out (by decide)) (fun _ hk=>hk.2) (.slice ao ai.length ap)) (fun _ h_=>h_.1))) hb);have az:=qK (Kd.S_lower (Kd.S_new' ho0 (Kd.R_lt ((Kd.R_mono (Kd.R_far (p:=⟨ag,0,none⟩) (Kd.R_types an.out ab.out (by decide)) (fun _ hk=>hk.2) (.slice ao ai.length ap)) (fun _ h_=>h_.1))))) (qZ (by repeat (with_reducible first|exact HB.out|apply qA|apply qD|apply qO|refine qS ?_ aA.out|refine qS ?_ aB.out|refine qS ?_ aC.out))));have aw:=qK (qB (g:=af) (o:=.cells #[.slice aq ak.length ar,.slice au ah.length av] 25 (0,0)) (by (with_reducible repeat (first|refine qN ?_ _|refine qW ?_|refine qL ?_ _));refine qR ?_ am.out _;(with_reducible repeat (first|refine qN ?_ _|refine qW ?_|refine qL ?_ _));exact aa.out) hb);have ax:=qK (qB (g:=ae) (o:=.cells #[.slice none 0 0,.slice none 0 0] 32 (0,0)) (by (with_reducible repeat (first|refine qN ?_ _|refine qW ?_|refine qL ?_ _));refine qR ?_ aj.out _;(with_reducible repeat (first|refine qN ?_ _|refine qW ?_|refine qL ?_ _));exact ac.out) hb);have aH:=qK (qB (g:=ag) (o:=.cells #[.slice ao ai.length ap,.slice none 0 0] 32 (0,0)) (by (with_reducible repeat (first|refine qN ?_ _|refine qW ?_|refine qL ?_ _));refine qP (cs:=#[.slice none 0 0,.slice none 0 0]) ?_ 0 _ rfl;(with_reducible repeat (first|refine qN ?_ _|refine qW ?_|refine qL ?_ _));exact ab.out) hb);have aK:=qK (qT (by repeat (with_reducible first|exact HB.out|apply qA|apply qD|apply qO|refine qS ?_ aA.out|refine qS ?_ aB.out|refine qS ?_ aC.out)) hb);clear an aa ac ab HB;have an:=ay;have aL:=az;have aa:=aw;have ac:=ax;have ab:=aH;have HB:=aK;clear ay az aw ax aH aK;(try clear hb);(try clear ho0);obtain ⟨aI,aJ,bq⟩:=Kd.S_slice aL.out;subst bq;have bb:ba.cell? ⟨ag,0,none⟩=some (.slice ao ai.length ap):=(qC ab.out 0).trans rfl;have bc:ba.cell? ⟨ag,1,none⟩=some (.slice none 0 0):=(qC ab.out 1).trans rfl;have bd:=qF ab.out 0;have be:=qF ab.out 1;have bf:ba.cell? ⟨ae,0,none⟩=some (.slice none 0 0):=(qC ac.out 0).trans rfl;have bg:ba.cell? ⟨ae,1,none⟩=some (.slice none 0 0):=(qC ac.out 1).trans rfl;have bh:=qF ac.out 0;have bi:=qF ac.out 1))
 refine bodyPost_ret (results_cell_row rfl _ _ ae 32 #[.slice ao ai.length ap,.slice aI al.length aJ] (0,0) _ rfl (by (with_reducible repeat (first|refine qN ?_ _|refine qW ?_|refine qL ?_ _));refine qP (cs:=#[.slice ao ai.length ap,.slice none 0 0]) ?_ 1 _ rfl;(with_reducible repeat (first|refine qN ?_ _|refine qW ?_|refine qL ?_ _));refine qP (cs:=#[.slice none 0 0,.slice none 0 0]) ?_ 0 _ rfl;(with_reducible repeat (first|refine qN ?_ _|refine qW ?_|refine qL ?_ _));refine qR ?_ aj.out _;(with_reducible repeat (first|refine qN ?_ _|refine qW ?_|refine qL ?_ _));exact ac.out) Try.underlying32 rfl (by kernel_rfl)) rfl ?_;exact ⟨_,_,by rfl,Kd.R_mono (Kd.R_far (p:=⟨ae,1,none⟩) (Kd.R_far (p:=⟨ae,0,none⟩) (Kd.R_far (p:=⟨ag,1,none⟩) (Kd.R_types (Kd.R_types an.out ab.out (by decide)) ac.out (by decide)) (fun _ hk=>hk.1.2) (.slice aI al.length aJ)) (fun _ hk=>hk.2) (.slice ao ai.length ap)) (fun _ hk=>hk.2) (.slice aI al.length aJ)) (fun _ hk=>trivial),Kd.S_mono (Kd.S_far (p:=⟨ae,1,none⟩) (Kd.S_far (p:=⟨ae,0,none⟩) (Kd.S_far (p:=⟨ag,1,none⟩) (Kd.S_types (Kd.S_types aL.out ab.out (by decide)) ac.out (by decide)) (fun _ hk=>hk.1.2) (.slice aI al.length aJ)) (fun _ hk=>hk.2) (.slice ao ai.length ap)) (fun _ hk=>hk.2) (.slice aI al.length aJ)) (fun _ hk=>hk.1.1.2),by repeat (first|(with_reducible first|exact HB.out|apply qA|apply qD|apply qO|refine qS ?_ aA.out|refine qS ?_ aB.out|refine qS ?_ aC.out)|exact HB.out)⟩

/-! ### laws_eqIntS: function 21 -/
def laws_eqIntS.l0 : Nat→List Int→List Int→Int→Option (Bool)
 | 0,_,_,_=>none
 | k + 1,x0,x1,x5=>if x5 < (x0.length:Int) then (if 0≤x5 then (if x5 < (x1.length:Int) then (if (rd x0 x5)=(rd x1 x5) then (laws_eqIntS.l0 k x0 x1 (wrap64 (x5 + 1))) else (none)) else (none)) else (none)) else (some true)
def laws_eqIntS.f (k:Nat) (l0:List Int) (l1:List Int):Option (Bool):=if (l0.length:Int)=(l1.length:Int) then (laws_eqIntS.l0 k l0 l1 0) else (none)
theorem laws_eqIntS.mono_l : ∀ k,(∀ y0 y1 y2,LeO (laws_eqIntS.l0 k y0 y1 y2) (laws_eqIntS.l0 (k + 1) y0 y1 y2))
 | 0=>fun _ _ _ r h=>by simp [laws_eqIntS.l0] at h
 | k + 1=>by
  have aa:=laws_eqIntS.mono_l k
  ·intro y0 y1 y2;unfold laws_eqIntS.l0
   repeat' first
   | (with_reducible exact aa _ _ _)
   | (with_reducible exact LeO.refl _)
   | (with_reducible exact LeO.none _)
   | (with_reducible refine LeO.ite ?_ ?_)
   | (with_reducible refine LeO.bind ?_ (fun _=>?_))
   | exact aa _ _ _
   | exact LeO.none _
   | refine LeO.ite ?_ ?_
   | refine LeO.bind ?_ (fun _=>?_)
theorem laws_eqIntS.mono : ∀ a0 a1 k,LeO (laws_eqIntS.f k a0 a1) (laws_eqIntS.f (k + 1) a0 a1):=by
 intro a0 a1 k;have aa:=laws_eqIntS.mono_l k;unfold laws_eqIntS.f
 repeat' first
   | (with_reducible exact aa _ _ _)
   | (with_reducible exact LeO.refl _)
   | (with_reducible exact LeO.none _)
   | (with_reducible refine LeO.ite ?_ ?_)
   | (with_reducible refine LeO.bind ?_ (fun _=>?_))
   | exact aa _ _ _
   | exact LeO.none _
   | refine LeO.ite ?_ ?_
   | refine LeO.bind ?_ (fun _=>?_)
set_option maxHeartbeats 8000000 in
set_option maxRecDepth 100000 in
theorem laws_eqIntS.calls (k:Nat) (A0:Option Addr) (c0:Nat) (l0:List Int) (A1:Option Addr) (c1:Nat) (l1:List Int) (r:Bool) (w:World) (hr0:Kd.C (Kd.int .i64) w A0 l0.length l0) (hc0:l0.length≤c0) (hr1:Kd.C (Kd.int .i64) w A1 l1.length l1) (hc1:l1.length≤c1) (h:laws_eqIntS.f k l0 l1=some r) :
  Calls Try.prog 21 #[.slice A0 l0.length c0,.slice A1 l1.length c1] w fun e w'=>e=.returned (.bool r)∧Drawn0 w w':=by
 have ar:=qK hr0;have az:=qK hc0;clear hr0 hc0;have au:=qK hr1;have aA:=qK hc1;clear hr1 hc1;have H:(if (l0.length:Int)=(l1.length:Int) then (laws_eqIntS.l0 k l0 l1 0) else (none))=some r:=h;clear h;by_cases c3:(l0.length:Int)=(l1.length:Int)
 ·rw [if_pos c3] at H;have ai:((l0.length:Int) == (l1.length:Int))=true:=beq_iff_eq.mpr c3;have aj:((l0.length:Int) != (l1.length:Int))=false:=bne_eq_false_iff_eq.mpr c3;have ak:(l0.length == l1.length)=true:=by first|simpa using c3|(simp at c3 ⊢;omega)
  clear c3;have H':=qK H;clear H;go_enter Try.func21,Try.ntmps21
  go_wp2
  repeat (go_quiet (fail);try go_wp2)
  go_loopg [5] k (fun kq v5 w'=>∃ (aa:Int),v5=.int .i64 aa∧Aside0 (laws_eqIntS.l0 kq l0 l1 aa=some r)∧Aside0 (kq≤k)∧Drawn0 w w')
  case atStart=>exact ⟨(0),(by rfl),H',⟨Nat.le_refl _⟩,by repeat (first|exact Drawn0.refl _|apply Drawn0.step)⟩
  case round =>
   clear H';try clear c1
   try clear c2
   try clear p2
   try clear c3
   try clear ai
   try clear aj
   try clear ak
   obtain ⟨aa,rfl,HA,ao,⟨m1,rfl⟩⟩:=hrel;cases gk with
   | zero=>exact absurd HA.out (by simp [laws_eqIntS.l0])
   | succ k1 =>
    have H:=HA.out;clear HA;simp only [laws_eqIntS.l0] at H;by_cases c4:aa < (l0.length:Int)
    ·rw [if_pos c4] at H;have al:decide (aa < (l0.length:Int))=true:=decide_eq_true c4;clear c4;by_cases c5:0≤aa
     ·rw [if_pos c5] at H;have av:decide (0≤aa)=true:=decide_eq_true c5;clear c5;by_cases c6:aa < (l1.length:Int)
      ·rw [if_pos c6] at H;have aw:decide (aa < (l1.length:Int))=true:=decide_eq_true c6;clear c6;by_cases c7:(rd l0 aa)=(rd l1 aa)
       ·rw [if_pos c7] at H;have ax:((rd l0 aa) == (rd l1 aa))=true:=beq_iff_eq.mpr c7;have ay:((rd l0 aa) != (rd l1 aa))=false:=bne_eq_false_iff_eq.mpr c7;clear c7;have H':=qK H;clear H;have ab:0≤(aa:Int):=of_decide_eq_true (by assumption);have ac:aa < (l0.length:Int):=of_decide_eq_true (by assumption);obtain ⟨ap,am,ag⟩:=Kd.at_int ar.out aa ab ac;cases am
        replace ab:=eq_true ab;replace ac:=eq_true ac;have ae:0≤(aa:Int):=of_decide_eq_true (by assumption);have af:aa < (l1.length:Int):=of_decide_eq_true (by assumption);obtain ⟨aq,an,ah⟩:=Kd.at_int au.out aa ae af;cases an
        replace ae:=eq_true ae;replace af:=eq_true af;go_wp2
        repeat (go_quiet (fail);try go_wp2)
        go_roundg k1
        case measure=>have:=ao.out;omega
        case rel=>exact ⟨(wrap64 (aa + 1)),(by rfl),H',⟨by have:=ao.out;omega⟩,by repeat (first|exact Drawn0.refl _|apply Drawn0.step)⟩
       ·rw [if_neg c7] at H;exact absurd H (by simp)
      ·rw [if_neg c6] at H;exact absurd H (by simp)
     ·rw [if_neg c5] at H;exact absurd H (by simp)
    ·rw [if_neg c4] at H;have al:decide (aa < (l0.length:Int))=false:=decide_eq_false c4;clear c4;obtain rfl:=Option.some.inj H;go_wp2
     repeat (go_quiet (fail);try go_wp2)
     go_ret
     exact ⟨by first|rfl|(simp;done)|(simp [*];done),by repeat (first|exact Drawn0.refl _|apply Drawn0.step)⟩
 ·rw [if_neg c3] at H;exact absurd H (by simp)

/-! ### laws_eqAtom: function 143 -/
def laws_eqAtom.f (k:Nat) (a0_0:Int) (l0_1:List Int) (a1_0:Int) (l1_1:List Int):Option (Bool):=if a0_0=a1_0 then ((laws_eqIntS.f k l0_1 l1_1).bind fun t141=>(if t141=true then (some true) else (none))) else (none)
theorem laws_eqAtom.mono : ∀ a0 a1 a2 a3 k,LeO (laws_eqAtom.f k a0 a1 a2 a3) (laws_eqAtom.f (k + 1) a0 a1 a2 a3):=by
 intro a0 a1 a2 a3 k;unfold laws_eqAtom.f
 repeat' first
   | (with_reducible exact laws_eqIntS.mono _ _ _)
   | (with_reducible exact LeO.refl _)
   | (with_reducible exact LeO.none _)
   | (with_reducible refine LeO.ite ?_ ?_)
   | (with_reducible refine LeO.bind ?_ (fun _=>?_))
   | exact laws_eqIntS.mono _ _ _
   | exact LeO.none _
   | refine LeO.ite ?_ ?_
   | refine LeO.bind ?_ (fun _=>?_)
set_option maxHeartbeats 8000000 in
set_option maxRecDepth 100000 in
theorem laws_eqAtom.calls (k:Nat) (af:Int) (al:Option Addr) (am:Nat) (ab:List Int) (ag:Int) (an:Option Addr) (ao:Nat) (ac:List Int) (r:Bool) (w:World) (hr0_1:Kd.C (Kd.int .i64) w al ab.length ab) (hc0_1:ab.length≤am) (hr1_1:Kd.C (Kd.int .i64) w an ac.length ac) (hc1_1:ac.length≤ao) (h:laws_eqAtom.f k af ab ag ac=some r) :
  Calls Try.prog 143 #[.agg #[.int .i64 af,.slice al ab.length am],.agg #[.int .i64 ag,.slice an ac.length ao]] w fun e w'=>e=.returned (.bool r)∧Below w.heap.size w w':=by
 have aQ:=Try.underlying97;have au:=qK hr0_1;have av:=qK hc0_1;clear hr0_1 hc0_1;have aw:=qK hr1_1;have ax:=qK hc1_1;clear hr1_1 hc1_1;have HB:=qK (Below.refl w.heap.size w);have H:(if af=ag then ((laws_eqIntS.f k ab ac).bind fun ap=>(if ap=true then (some true) else (none))) else (none))=some r:=h;clear h;by_cases c3:af=ag
 ·rw [if_pos c3] at H;have aR:(af == ag)=true:=beq_iff_eq.mpr c3;have aS:(af != ag)=false:=bne_eq_false_iff_eq.mpr c3;clear c3;replace H:=Option.bind_eq_some_iff.mp H;obtain ⟨ap,aL,H⟩:=H;replace H:(if ap=true then (some true) else (none))=some r:=H;have A4:=qK aL;clear aL;by_cases c5:ap=true
  ·subst c5;have H1:(some true)=some r:=by rw [if_pos rfl] at H;exact H
   clear H;have H:=H1;clear H1;obtain rfl:=Option.some.inj H;go_enter Try.func143,Try.ntmps143
   go_wp2_with (first|((with_reducible refine gate_dst (N:=2) rfl ?_);refine box_event ?hg (N:=2) ?hd (cs:=#[.int .i64 af,.slice al ab.length am]) (t:=97) ?hr ?_;(case hd=>rfl);(case hg=>rfl);(case hr=>(go_simp;try rfl));intro ae hg w6 hbox hb;have ay:=qK (qT HB.out hb);have az:=qK (hbox);have aq:=qK ((by rw [hg];exact (qZ HB.out):w.heap.size≤ae));have ar:=aq;clear HB;have HB:=ay;have aa:=az;have aM:=aq;have aA:=ar;clear ay az aq ar;clear hb hbox hg)|((with_reducible refine gate_dst (N:=3) rfl ?_);refine box_event ?hg (N:=3) ?hd (cs:=#[.int .i64 ag,.slice an ac.length ao]) (t:=97) ?hr ?_;(case hd=>rfl);(case hg=>rfl);(case hr=>(go_simp;try rfl));intro ah hg w7 hbox hb;have ay:=qK (qB (g:=ae) (o:=_) aa.out hb);have az:=qK (qT HB.out hb);have aq:=qK (hbox);have ar:=qK ((by rw [hg];exact (qZ HB.out):w.heap.size≤ah));have aN:=ar;have aG:=qK ((by rw [hg];exact Nat.ne_of_lt (blk_lt (g:=ae) (o:=_) aa.out):ae ≠ ah));have aO:=qK aG.out.symm;clear aa HB;have aa:=ay;have HB:=az;have ai:=aq;have aP:=ar;have aB:=aN;have aj:=aG;have ak:=aO;clear ay az aq ar aN aG aO hb hbox hg;have aT:=aj.out;have aU:=ak.out;have aH:w7.cell? ⟨ae,0,none⟩=some (.int .i64 af):=(qC aa.out 0).trans rfl;have aI:w7.cell? ⟨ae,1,none⟩=some (.slice al ab.length am):=(qC aa.out 1).trans rfl;have aJ:=qF aa.out 0;have aK:=qF aa.out 1;have aC:w7.cell? ⟨ah,0,none⟩=some (.int .i64 ag):=(qC ai.out 0).trans rfl;have aD:w7.cell? ⟨ah,1,none⟩=some (.slice an ac.length ao):=(qC ai.out 1).trans rfl;have aE:=qF ai.out 0;have aF:=qF ai.out 1)|((with_reducible refine gate_callee (f:=21) rfl ?_);refine goesL_ (some 14) rfl rfl Try.func21 (by kernel_rfl) rfl #[.slice al ab.length am,.slice an ac.length ao] rfl (by (try simp only [mT,mC,mN]);first|done|rfl|(simp only [lD,lT];rfl)) ?_;(with_reducible refine (laws_eqIntS.calls k _ _ ab _ _ ac true _ ?side1 ?side2 ?side3 ?side4 A4.out).mono ?_);(case side1=>exact (cB au.out HB.out));(case side2=>exact av.out);(case side3=>exact (cB aw.out HB.out));(case side4=>exact ax.out);rintro e w' ⟨rfl,⟨nd,rfl⟩⟩;refine ⟨_,rfl,?_⟩))
   go_ret
   exact ⟨by rfl,by repeat (first|(with_reducible first|exact HB.out|apply qA|apply qD|apply qO|refine qS ?_ aA.out|refine qS ?_ aB.out)|exact HB.out)⟩
  ·replace c5:=Bool.eq_false_iff.mpr c5;subst c5;have H1:(none)=some r:=by rw [if_neg (show ¬ (false=true) by decide)] at H;exact H
   clear H;have H:=H1;clear H1;exact absurd H (by simp)
 ·rw [if_neg c3] at H;exact absurd H (by simp)

/-! ### laws_eqAtomS: function 80 -/
def laws_eqAtomS.l0 : Nat→List (S97)→List (S97)→Int→Option (Bool)
 | 0,_,_,_=>none
 | k + 1,x0,x1,x5=>if x5 < (x0.length:Int) then (if 0≤x5 then (if x5 < (x1.length:Int) then ((laws_eqAtom.f k ((rd_T97 x0 x5).f0) ((rd_T97 x0 x5).f1) ((rd_T97 x1 x5).f0) ((rd_T97 x1 x5).f1)).bind fun t144=>(if t144=true then (laws_eqAtomS.l0 k x0 x1 (wrap64 (x5 + 1))) else (none))) else (none)) else (none)) else (some true)
def laws_eqAtomS.f (k:Nat) (l0:List (S97)) (l1:List (S97)):Option (Bool):=if (l0.length:Int)=(l1.length:Int) then (laws_eqAtomS.l0 k l0 l1 0) else (none)
theorem laws_eqAtomS.mono_l : ∀ k,(∀ y0 y1 y2,LeO (laws_eqAtomS.l0 k y0 y1 y2) (laws_eqAtomS.l0 (k + 1) y0 y1 y2))
 | 0=>fun _ _ _ r h=>by simp [laws_eqAtomS.l0] at h
 | k + 1=>by
  have aa:=laws_eqAtomS.mono_l k
  ·intro y0 y1 y2;unfold laws_eqAtomS.l0
   repeat' first
   | (with_reducible exact aa _ _ _)
   | (with_reducible exact laws_eqAtom.mono _ _ _ _ _)
   | (with_reducible exact LeO.refl _)
   | (with_reducible exact LeO.none _)
   | (with_reducible refine LeO.ite ?_ ?_)
   | (with_reducible refine LeO.bind ?_ (fun _=>?_))
   | exact aa _ _ _
   | exact laws_eqAtom.mono _ _ _ _ _
   | exact LeO.none _
   | refine LeO.ite ?_ ?_
   | refine LeO.bind ?_ (fun _=>?_)
theorem laws_eqAtomS.mono : ∀ a0 a1 k,LeO (laws_eqAtomS.f k a0 a1) (laws_eqAtomS.f (k + 1) a0 a1):=by
 intro a0 a1 k;have aa:=laws_eqAtomS.mono_l k;unfold laws_eqAtomS.f
 repeat' first
   | (with_reducible exact aa _ _ _)
   | (with_reducible exact laws_eqAtom.mono _ _ _ _ _)
   | (with_reducible exact LeO.refl _)
   | (with_reducible exact LeO.none _)
   | (with_reducible refine LeO.ite ?_ ?_)
   | (with_reducible refine LeO.bind ?_ (fun _=>?_))
   | exact aa _ _ _
   | exact laws_eqAtom.mono _ _ _ _ _
   | exact LeO.none _
   | refine LeO.ite ?_ ?_
   | refine LeO.bind ?_ (fun _=>?_)
def laws_eqAtomS.T6 : Bool × List (List Nat × List Nat):=(true,[([],[]),([],[]),([0,1],[0,1]),([2],[2]),([],[]),([],[]),([4,5],[4,5]),([6],[6]),([3,7],[3,7]),([8],[8])])
def laws_eqAtomS.B6 : List Nat:=[0,0,3,7,0,0,48,112,255,511]
theorem laws_eqAtomS.tab6 : rtab .any (opsOf Try.f80 6)=laws_eqAtomS.T6:=by kernel_rfl
theorem laws_eqAtomS.bits6 : waitsOk laws_eqAtomS.T6.2 laws_eqAtomS.B6=true:=by kernel_rfl
set_option maxHeartbeats 8000000 in
set_option maxRecDepth 100000 in
theorem laws_eqAtomS.calls (k:Nat) (A0:Option Addr) (c0:Nat) (l0:List (S97)) (A1:Option Addr) (c1:Nat) (l1:List (S97)) (r:Bool) (w:World) (hr0:Kd.C k97 w A0 l0.length l0) (hc0:l0.length≤c0) (hr1:Kd.C k97 w A1 l1.length l1) (hc1:l1.length≤c1) (h:laws_eqAtomS.f k l0 l1=some r) :
  Calls Try.prog 80 #[.slice A0 l0.length c0,.slice A1 l1.length c1] w fun e w'=>e=.returned (.bool r)∧Below w.heap.size w w':=by
 have aO:=Try.underlying97;have aP:=qK hr0;have aT:=qK hc0;clear hr0 hc0;have aQ:=qK hr1;have aU:=qK hc1;clear hr1 hc1;have HB:=qK (Below.refl w.heap.size w);have H:(if (l0.length:Int)=(l1.length:Int) then (laws_eqAtomS.l0 k l0 l1 0) else (none))=some r:=h;clear h;by_cases c3:(l0.length:Int)=(l1.length:Int)
 ·rw [if_pos c3] at H;have aG:((l0.length:Int) == (l1.length:Int))=true:=beq_iff_eq.mpr c3;have aH:((l0.length:Int) != (l1.length:Int))=false:=bne_eq_false_iff_eq.mpr c3;have aI:(l0.length == l1.length)=true:=by first|simpa using c3|(simp at c3 ⊢;omega)
  clear c3;have H':=qK H;clear H;go_enter Try.func80,Try.ntmps80
  go_wp2
  go_loopg [5] k (fun kq v5 w'=>∃ (aa:Int),v5=.int .i64 aa∧Aside0 (laws_eqAtomS.l0 kq l0 l1 aa=some r)∧Aside0 (kq≤k)∧Aside0 (Below w.heap.size w w'))
  case atStart=>exact ⟨(0),(by rfl),H',⟨Nat.le_refl _⟩,⟨HB.out⟩⟩
  case round =>
   clear H';try clear c1
   try clear p2
   try clear c3
   try clear aG
   try clear aH
   try clear aI
   obtain ⟨aa,rfl,HA,aM,HB⟩:=hrel;cases gk with
   | zero=>exact absurd HA.out (by simp [laws_eqAtomS.l0])
   | succ k1 =>
    have H:=HA.out;clear HA;simp only [laws_eqAtomS.l0] at H;by_cases c4:aa < (l0.length:Int)
    ·rw [if_pos c4] at H;have aJ:decide (aa < (l0.length:Int))=true:=decide_eq_true c4;clear c4;by_cases c5:0≤aa
     ·rw [if_pos c5] at H;have aR:decide (0≤aa)=true:=decide_eq_true c5;clear c5;by_cases c6:aa < (l1.length:Int)
      ·rw [if_pos c6] at H;have aS:decide (aa < (l1.length:Int))=true:=decide_eq_true c6;clear c6;replace H:=Option.bind_eq_some_iff.mp H;obtain ⟨aF,aN,H⟩:=H;replace H:(if aF=true then (laws_eqAtomS.l0 k1 l0 l1 (wrap64 (aa + 1))) else (none))=some r:=H;have A7:=qK aN;clear aN;by_cases c8:aF=true
       ·subst c8;have H1:(laws_eqAtomS.l0 k1 l0 l1 (wrap64 (aa + 1)))=some r:=by rw [if_pos rfl] at H;exact H
        clear H;have H:=H1;clear H1;have H':=qK H;clear H;try go_wp2
        (try (rw [drewN_self wr];generalize hq_:World.drewN wr _=wr;have aA:Aside0 (Below w.heap.size w wr):=⟨by rw [← hq_];exact HB.out⟩;clear HB hq_;have HB:=aA;clear aA));have aA:=qK (qO HB.out);clear HB;have HB:=aA;clear aA;have aB:0≤(aa:Int):=of_decide_eq_true (by assumption);have aC:aa < (l0.length:Int):=of_decide_eq_true (by assumption);obtain ⟨aq,ar,au,aK,ab,ac,ak,al⟩:=at_T97 aP.out aa aB aC;have ag:=ac;have ah:=ab;cases aK
        replace ab:=(HB.out.cell (World.block_lt_of_cell? w _ ab)).trans ab;replace ac:=(HB.out.cell (World.block_lt_of_cell? w _ ac)).trans ac;have am:=qK al;have ay:=qK ak;clear al ak;replace aB:=eq_true aB;replace aC:=eq_true aC;have aD:0≤(aa:Int):=of_decide_eq_true (by assumption);have aE:aa < (l1.length:Int):=of_decide_eq_true (by assumption);obtain ⟨av,aw,ax,aL,ae,af,an,ao⟩:=at_T97 aQ.out aa aD aE;have ai:=af;have aj:=ae;cases aL
        replace ae:=(HB.out.cell (World.block_lt_of_cell? w _ ae)).trans ae;replace af:=(HB.out.cell (World.block_lt_of_cell? w _ af)).trans af;have ap:=qK ao;have az:=qK an;clear ao an;replace aD:=eq_true aD;replace aE:=eq_true aE;refine start_ (n:=10) (S:=fun w'=>w'.cell? (aq.add ((aa).toNat * 2))=some (.int .i64 ((rd_T97 l0 aa).f0))∧w'.cell? ⟨(aq.add ((aa).toNat * 2)).block,(aq.add ((aa).toNat * 2)).off + 1,none⟩=some (.slice ar ((rd_T97 l0 aa).f1).length au)∧w'.cell? (av.add ((aa).toNat * 2))=some (.int .i64 ((rd_T97 l1 aa).f0))∧w'.cell? ⟨(av.add ((aa).toNat * 2)).block,(av.add ((aa).toNat * 2)).off + 1,none⟩=some (.slice aw ((rd_T97 l1 aa).f1).length ax)) (ds:=[]) #[Z,Z,Z,Z,Z,Z,Z,Z,Z,Z] (by kernel_rfl) rfl rfl ⟨((HB.out.cell (World.block_lt_of_cell? w _ ah)).trans ah),((HB.out.cell (World.block_lt_of_cell? w _ ag)).trans ag),((HB.out.cell (World.block_lt_of_cell? w _ aj)).trans aj),((HB.out.cell (World.block_lt_of_cell? w _ ai)).trans ai)⟩ (fun hHeld=>?_);refine with_tabW laws_eqAtomS.tab6 laws_eqAtomS.bits6 (fun HT_ HW_=>?_);generalize wr.drew=w9 at HB am ap ab ac ae af hHeld ⊢
        refine pure_ (i:=0) (N:=some 17) (v:=?_) (a':=?_) #[Y,Z,Z,Z,Z,Z,Z,Z,Z,Z] rfl rfl (any_of HT_.out (by kernel_rfl)) (fun _ _ _ h=>h) (Or.inl ⟨by rfl,?_⟩) ?_ ?_;rotate_left
        ·intro w';go_simp;with_reducible rfl
        rotate_left
        ·simp only [Act.put,sIb,sZ,sS,i64_w,i32_w];rfl
        refine pure_ (i:=1) (N:=some 18) (v:=?_) (a':=?_) #[Y,Y,Z,Z,Z,Z,Z,Z,Z,Z] rfl rfl (any_of HT_.out (by kernel_rfl)) (fun _ _ _ h=>h) (Or.inl ⟨by rfl,?_⟩) ?_ ?_;rotate_left
        ·intro w';go_simp;with_reducible rfl
        rotate_left
        ·simp only [Act.put,sIb,sZ,sS,i64_w,i32_w];rfl
        refine pure_ (i:=2) (N:=some 19) (v:=?_) (a':=?_) #[Y,Y,Y,Z,Z,Z,Z,Z,Z,Z] rfl rfl (any_of HT_.out (by kernel_rfl)) (fun _ _ _ h=>h) (Or.inl ⟨by rfl,?_⟩) ?_ ?_;rotate_left
        ·intro w';go_simp;with_reducible rfl
        rotate_left
        ·simp only [Act.put,sIb,sZ,sS,i64_w,i32_w];rfl
        refine pure_ (i:=4) (N:=some 21) (v:=?_) (a':=?_) #[Y,Y,Y,Z,Y,Z,Z,Z,Z,Z] rfl rfl (any_of HT_.out (by kernel_rfl)) (fun _ _ _ h=>h) (Or.inl ⟨by rfl,?_⟩) ?_ ?_;rotate_left
        ·intro w';go_simp;with_reducible rfl
        rotate_left
        ·simp only [Act.put,sIb,sZ,sS,i64_w,i32_w];rfl
        refine pure_ (i:=5) (N:=some 22) (v:=?_) (a':=?_) #[Y,Y,Y,Z,Y,Y,Z,Z,Z,Z] rfl rfl (any_of HT_.out (by kernel_rfl)) (fun _ _ _ h=>h) (Or.inl ⟨by rfl,?_⟩) ?_ ?_;rotate_left
        ·intro w';go_simp;with_reducible rfl
        rotate_left
        ·simp only [Act.put,sIb,sZ,sS,i64_w,i32_w];rfl
        refine pure_ (i:=6) (N:=some 23) (v:=?_) (a':=?_) #[Y,Y,Y,Z,Y,Y,Y,Z,Z,Z] rfl rfl (any_of HT_.out (by kernel_rfl)) (fun _ _ _ h=>h) (Or.inl ⟨by rfl,?_⟩) ?_ ?_;rotate_left
        ·intro w';go_simp;with_reducible rfl
        rotate_left
        ·simp only [Act.put,sIb,sZ,sS,i64_w,i32_w];rfl
        refine take_ (i:=3) (N:=some 20) (v:=?_) (a':=?_) #[Y,Y,Y,Y,Y,Y,Y,Z,Z,Z] rfl rfl (take_ofW HT_.out HW_.out (by kernel_rfl)) (fun _ _ _ h=>h) (Or.inl ⟨by rfl,?_⟩) hHeld ?_ ?_;rotate_left
        ·rintro w' ⟨s0,s1,s2,s3⟩;go_simp;with_reducible rfl
        rotate_left
        ·simp only [Act.put,sIb,sZ,sS,i64_w,i32_w];rfl
        refine take_ (i:=7) (N:=some 24) (v:=?_) (a':=?_) #[Y,Y,Y,Y,Y,Y,Y,Y,Z,Z] rfl rfl (take_ofW HT_.out HW_.out (by kernel_rfl)) (fun _ _ _ h=>h) (Or.inl ⟨by rfl,?_⟩) hHeld ?_ ?_;rotate_left
        ·rintro w' ⟨s0,s1,s2,s3⟩;go_simp;with_reducible rfl
        rotate_left
        ·simp only [Act.put,sIb,sZ,sS,i64_w,i32_w];rfl
        refine one_ (i:=8) (N:=some 25) #[Y,Y,Y,Y,Y,Y,Y,Y,Y,Z] rfl rfl (one_of HT_.out (by kernel_rfl)) (by decide) (fun K hK=>?_);refine goes_ Try.func143 (by kernel_rfl) rfl #[.agg #[.int .i64 ((rd_T97 l0 aa).f0),.slice ar ((rd_T97 l0 aa).f1).length au],.agg #[.int .i64 ((rd_T97 l1 aa).f0),.slice aw ((rd_T97 l1 aa).f1).length ax]] (by rfl) rfl rfl (by (try simp only [mT,mC,mN]);first|done|rfl|(simp only [lD,lT];rfl)) ?_;with_reducible refine (laws_eqAtom.calls k1 ((rd_T97 l0 aa).f0) _ _ ((rd_T97 l0 aa).f1) ((rd_T97 l1 aa).f0) _ _ ((rd_T97 l1 aa).f1) true _ ?side1 ?side2 ?side3 ?side4 A7.out).mono ?_
        (case side1=>exact (cB am.out HB.out));(case side2=>exact ay.out);(case side3=>exact (cB ap.out HB.out));(case side4=>exact az.out);rintro e aV ⟨rfl,hb⟩;refine ⟨_,rfl,?_⟩;have aA:=qK (qT HB.out hb);clear HB;have HB:=aA;clear aA;(try clear hb);refine hK.out _ _ ⟨((HB.out.cell (World.block_lt_of_cell? w _ ah)).trans ah),((HB.out.cell (World.block_lt_of_cell? w _ ag)).trans ag),((HB.out.cell (World.block_lt_of_cell? w _ aj)).trans aj),((HB.out.cell (World.block_lt_of_cell? w _ ai)).trans ai)⟩ (fun hHeld=>?_);clear hK K;refine norm_ (a':=?_) ?_ ?_;rotate_left
        ·show Act.put _ (some 25) _=_
         simp only [Act.put,sIb,sZ,sS,i64_w,i32_w];rfl
        refine pure_ (i:=9) (N:=some 26) (v:=?_) (a':=?_) #[Y,Y,Y,Y,Y,Y,Y,Y,Y,Y] rfl rfl (any_of HT_.out (by kernel_rfl)) (fun _ _ _ h=>h) (Or.inl ⟨by rfl,?_⟩) ?_ ?_;rotate_left
        ·intro w';go_simp;with_reducible rfl
        rotate_left
        ·simp only [Act.put,sIb,sZ,sS,i64_w,i32_w];rfl
        refine done_ (done_of HT_.out (by kernel_rfl)) ?_;try go_wp2
        go_roundg k1
        case measure=>have:=aM.out;omega
        case rel=>exact ⟨(wrap64 (aa + 1)),(by rfl),H',⟨by have:=aM.out;omega⟩,⟨HB.out⟩⟩
       ·replace c8:=Bool.eq_false_iff.mpr c8;subst c8;have H1:(none)=some r:=by rw [if_neg (show ¬ (false=true) by decide)] at H;exact H
        clear H;have H:=H1;clear H1;exact absurd H (by simp)
      ·rw [if_neg c6] at H;exact absurd H (by simp)
     ·rw [if_neg c5] at H;exact absurd H (by simp)
    ·rw [if_neg c4] at H;have aJ:decide (aa < (l0.length:Int))=false:=decide_eq_false c4;clear c4;obtain rfl:=Option.some.inj H;go_wp2
     go_ret
     exact ⟨by rfl,HB.out⟩
 ·rw [if_neg c3] at H;exact absurd H (by simp)

/-! ### laws_eqQuery: function 20 -/
def laws_eqQuery.f (k:Nat) (l0_0:List Int) (l0_1:List (S97)) (l1_0:List Int) (l1_1:List (S97)):Option (Bool):=(laws_eqIntS.f k l0_0 l1_0).bind fun t147=>(if t147=true then ((laws_eqAtomS.f k l0_1 l1_1).bind fun t148=>(if t148=true then (some true) else (none))) else (none))
theorem laws_eqQuery.mono : ∀ a0 a1 a2 a3 k,LeO (laws_eqQuery.f k a0 a1 a2 a3) (laws_eqQuery.f (k + 1) a0 a1 a2 a3):=by
 intro a0 a1 a2 a3 k;unfold laws_eqQuery.f
 repeat' first
   | (with_reducible exact laws_eqAtomS.mono _ _ _)
   | (with_reducible exact laws_eqIntS.mono _ _ _)
   | (with_reducible exact LeO.refl _)
   | (with_reducible exact LeO.none _)
   | (with_reducible refine LeO.ite ?_ ?_)
   | (with_reducible refine LeO.bind ?_ (fun _=>?_))
   | exact laws_eqAtomS.mono _ _ _
   | exact laws_eqIntS.mono _ _ _
   | exact LeO.none _
   | refine LeO.ite ?_ ?_
   | refine LeO.bind ?_ (fun _=>?_)
set_option maxHeartbeats 8000000 in
set_option maxRecDepth 100000 in
theorem laws_eqQuery.calls (k:Nat) (am:Option Addr) (an:Nat) (ag:List Int) (ao:Option Addr) (ap:Nat) (ab:List (S97)) (aq:Option Addr) (ar:Nat) (ah:List Int) (au:Option Addr) (av:Nat) (ac:List (S97)) (r:Bool) (w:World) (hr0_0:Kd.C (Kd.int .i64) w am ag.length ag) (hc0_0:ag.length≤an) (hr0_1:Kd.C k97 w ao ab.length ab) (hc0_1:ab.length≤ap) (hr1_0:Kd.C (Kd.int .i64) w aq ah.length ah) (hc1_0:ah.length≤ar) (hr1_1:Kd.C k97 w au ac.length ac) (hc1_1:ac.length≤av) (h:laws_eqQuery.f k ag ab ah ac=some r) :
  Calls Try.prog 20 #[.agg #[.slice am ag.length an,.slice ao ab.length ap],.agg #[.slice aq ah.length ar,.slice au ac.length av]] w fun e w'=>e=.returned (.bool r)∧Below w.heap.size w w':=by
 have ba:=Try.underlying32;have aD:=qK hr0_0;have aE:=qK hc0_0;clear hr0_0 hc0_0;have aF:=qK hr0_1;have aG:=qK hc0_1;clear hr0_1 hc0_1;have aH:=qK hr1_0;have aI:=qK hc1_0;clear hr1_0 hc1_0;have aJ:=qK hr1_1;have aK:=qK hc1_1;clear hr1_1 hc1_1;have HB:=qK (Below.refl w.heap.size w);have H:((laws_eqIntS.f k ag ah).bind fun ay=>(if ay=true then ((laws_eqAtomS.f k ab ac).bind fun ai=>(if ai=true then (some true) else (none))) else (none)))=some r:=h;clear h;replace H:=Option.bind_eq_some_iff.mp H;obtain ⟨ay,aU,H⟩:=H;replace H:(if ay=true then ((laws_eqAtomS.f k ab ac).bind fun ai=>(if ai=true then (some true) else (none))) else (none))=some r:=H;have A3:=qK aU;clear aU;by_cases c4:ay=true
 ·subst c4;have H1:((laws_eqAtomS.f k ab ac).bind fun ai=>(if ai=true then (some true) else (none)))=some r:=by rw [if_pos rfl] at H;exact H
  clear H;have H:=H1;clear H1;replace H:=Option.bind_eq_some_iff.mp H;obtain ⟨ai,aV,H⟩:=H;replace H:(if ai=true then (some true) else (none))=some r:=H;have A5:=qK aV;clear aV;by_cases c6:ai=true
  ·subst c6;have H1:(some true)=some r:=by rw [if_pos rfl] at H;exact H
   clear H;have H:=H1;clear H1;obtain rfl:=Option.some.inj H;go_enter Try.func20,Try.ntmps20
   go_wp2_with (first|((with_reducible refine gate_dst (N:=2) rfl ?_);refine box_event ?hg (N:=2) ?hd (cs:=#[.slice am ag.length an,.slice ao ab.length ap]) (t:=32) ?hr ?_;(case hd=>rfl);(case hg=>rfl);(case hr=>(go_simp;try rfl));intro ae hg w7 hbox hb;have aA:=qK (qT (by exact HB.out) hb);have aB:=qK (hbox);have az:=qK ((by rw [hg];exact (qZ (by exact HB.out)):w.heap.size≤ae));have aC:=az;clear HB;have HB:=aA;have aa:=aB;have aW:=az;have aw:=aC;clear aA aB az aC;clear hb hbox hg)|((with_reducible refine gate_dst (N:=3) rfl ?_);refine box_event ?hg (N:=3) ?hd (cs:=#[.slice aq ah.length ar,.slice au ac.length av]) (t:=32) ?hr ?_;(case hd=>rfl);(case hg=>rfl);(case hr=>(go_simp;try rfl));intro aj hg w8 hbox hb;have aA:=qK (qB (g:=ae) (o:=_) (by exact aa.out) hb);have aB:=qK (qT (by exact HB.out) hb);have az:=qK (hbox);have aC:=qK ((by rw [hg];exact (qZ (by exact HB.out)):w.heap.size≤aj));have aX:=aC;have aT:=qK ((by rw [hg];exact Nat.ne_of_lt (blk_lt (g:=ae) (o:=_) (by exact aa.out)):ae ≠ aj));have aY:=qK aT.out.symm;clear aa HB;have aa:=aA;have HB:=aB;have af:=az;have aZ:=aC;have ax:=aX;have ak:=aT;have al:=aY;clear aA aB az aC aX aT aY hb hbox hg;have bb:=ak.out;have bc:=al.out;have aL:w8.cell? ⟨ae,0,none⟩=some (.slice am ag.length an):=(qC aa.out 0).trans rfl;have aM:w8.cell? ⟨ae,1,none⟩=some (.slice ao ab.length ap):=(qC aa.out 1).trans rfl;have aN:=qF aa.out 0;have aO:=qF aa.out 1;have aP:w8.cell? ⟨aj,0,none⟩=some (.slice aq ah.length ar):=(qC af.out 0).trans rfl;have aQ:w8.cell? ⟨aj,1,none⟩=some (.slice au ac.length av):=(qC af.out 1).trans rfl;have aR:=qF af.out 0;have aS:=qF af.out 1)|((with_reducible refine gate_callee (f:=21) rfl ?_);refine goesL_ (some 9) rfl rfl Try.func21 (by kernel_rfl) rfl #[.slice am ag.length an,.slice aq ah.length ar] rfl (by (try simp only [mT,mC,mN]);first|done|rfl|(simp only [lD,lT];rfl)) ?_;(with_reducible refine (laws_eqIntS.calls k _ _ ag _ _ ah true _ ?side1 ?side2 ?side3 ?side4 A3.out).mono ?_);(case side1=>exact (cB aD.out HB.out));(case side2=>exact aE.out);(case side3=>exact (cB aH.out HB.out));(case side4=>exact aI.out);rintro e w' ⟨rfl,⟨nd,rfl⟩⟩;refine ⟨_,rfl,?_⟩)|((with_reducible refine gate_callee (f:=80) rfl ?_);refine goesL_ (some 15) rfl rfl Try.func80 (by kernel_rfl) rfl #[.slice ao ab.length ap,.slice au ac.length av] rfl (by (try simp only [mT,mC,mN]);first|done|rfl|(simp only [lD,lT];rfl)) ?_;(with_reducible refine (laws_eqAtomS.calls k _ _ ab _ _ ac true _ ?side1 ?side2 ?side3 ?side4 A5.out).mono ?_);(case side1=>exact (cB aF.out (by repeat (with_reducible first|exact HB.out|apply qA|apply qD|apply qO|refine qS ?_ aw.out|refine qS ?_ ax.out))));(case side2=>exact aG.out);(case side3=>exact (cB aJ.out (by repeat (with_reducible first|exact HB.out|apply qA|apply qD|apply qO|refine qS ?_ aw.out|refine qS ?_ ax.out))));(case side4=>exact aK.out);rintro e bd ⟨rfl,hb⟩;refine ⟨_,rfl,?_⟩;have aA:=qK (qB (g:=ae) (o:=_) (by exact aa.out) hb);have aB:=qK (qB (g:=aj) (o:=_) (by exact af.out) hb);have az:=qK (qT (by repeat (with_reducible first|exact HB.out|apply qA|apply qD|apply qO|refine qS ?_ aw.out|refine qS ?_ ax.out)) hb);clear aa af HB;have aa:=aA;have af:=aB;have HB:=az;clear aA aB az;(try clear hb)))
   go_ret
   exact ⟨by rfl,HB.out⟩
  ·replace c6:=Bool.eq_false_iff.mpr c6;subst c6;have H1:(none)=some r:=by rw [if_neg (show ¬ (false=true) by decide)] at H;exact H
   clear H;have H:=H1;clear H1;exact absurd H (by simp)
 ·replace c4:=Bool.eq_false_iff.mpr c4;subst c4;have H1:(none)=some r:=by rw [if_neg (show ¬ (false=true) by decide)] at H;exact H
  clear H;have H:=H1;clear H1;exact absurd H (by simp)

/-! ### laws_markIntS: function 23 -/
def laws_markIntS.l0 : Nat→List Int→Int→Int→Option (Int × List Int)
 | 0,_,_,_=>none
 | k + 1,x0,x1,x5=>if x5 < (x0.length:Int) then (if 0≤x5 then (laws_markIntS.l0 k (x0.set (x5:Int).toNat x1) (wrap64 (x1 + 1)) (wrap64 (x5 + 1))) else (none)) else (some (x1,x0))
def laws_markIntS.f (k:Nat) (l0:List Int) (a1:Int):Option (Int × List Int):=laws_markIntS.l0 k l0 a1 0
theorem laws_markIntS.mono_l : ∀ k,(∀ y0 y1 y2,LeO (laws_markIntS.l0 k y0 y1 y2) (laws_markIntS.l0 (k + 1) y0 y1 y2))
 | 0=>fun _ _ _ r h=>by simp [laws_markIntS.l0] at h
 | k + 1=>by
  have aa:=laws_markIntS.mono_l k
  ·intro y0 y1 y2;unfold laws_markIntS.l0
   repeat' first
   | (with_reducible exact aa _ _ _)
   | (with_reducible exact LeO.refl _)
   | (with_reducible exact LeO.none _)
   | (with_reducible refine LeO.ite ?_ ?_)
   | (with_reducible refine LeO.bind ?_ (fun _=>?_))
   | exact aa _ _ _
   | exact LeO.none _
   | refine LeO.ite ?_ ?_
   | refine LeO.bind ?_ (fun _=>?_)
theorem laws_markIntS.mono : ∀ a0 a1 k,LeO (laws_markIntS.f k a0 a1) (laws_markIntS.f (k + 1) a0 a1):=by
 intro a0 a1 k;have aa:=laws_markIntS.mono_l k;unfold laws_markIntS.f
 repeat' first
   | (with_reducible exact aa _ _ _)
   | (with_reducible exact LeO.refl _)
   | (with_reducible exact LeO.none _)
   | (with_reducible refine LeO.ite ?_ ?_)
   | (with_reducible refine LeO.bind ?_ (fun _=>?_))
   | exact aa _ _ _
   | exact LeO.none _
   | refine LeO.ite ?_ ?_
   | refine LeO.bind ?_ (fun _=>?_)
set_option maxHeartbeats 8000000 in
set_option maxRecDepth 100000 in
theorem laws_markIntS.calls (k:Nat) (ah:Nat→Prop) (ab:Value) (l0:List Int) (a1:Int) (r1:Int) (r2:List Int) (w0 w:World) (hB:Below w0.heap.size w0 w) (ho0:Kd.R (Kd.int .i64) 3 w w0.heap.size ah ab l0) (h:laws_markIntS.f k l0 a1=some (r1,r2)) :
  Calls Try.prog 23 #[ab,.int .i64 a1] w fun e w'=>e=.returned (.int .i64 r1)∧Kd.R (Kd.int .i64) 3 w' w0.heap.size (fun k_=>(ah k_ ∨ w.heap.size≤k_)) ab r2∧Below w0.heap.size w0 w'∧Kept w w' (fun k_=>ah k_):=by
 have az:=qK (show Kd.R (Kd.int .i64) 3 w w0.heap.size (fun k_=>(ah k_ ∨ w.heap.size≤k_)) ab l0 from Kd.R_mono ho0 (fun k_ hk=>(.inl hk)));have HK:=qK (Kept.refl w (fun k_=>ah k_));have aG:=qK hB.size;have HB:=qK hB;clear hB;have H:(laws_markIntS.l0 k l0 a1 0)=some (r1,r2):=h;clear h;have H':=qK H;clear H;go_enter Try.func23,Try.ntmps23
 go_wp2
 go_loopg [1,5] k (fun kq v1 v5 w'=>∃ (ae:List Int) (af:Int) (aa:Int),v1=.int .i64 af∧v5=.int .i64 aa∧Aside0 (laws_markIntS.l0 kq ae af aa=some (r1,r2))∧Aside0 (kq≤k)∧Aside0 (Kd.R (Kd.int .i64) 3 w' w0.heap.size (fun k_=>(ah k_ ∨ w.heap.size≤k_)) ab ae)∧Aside0 (Kept w w' (fun k_=>ah k_))∧Aside0 (Below w0.heap.size w0 w'))
 case atStart=>exact ⟨(l0),(a1),(0),(by rfl),(by rfl),H',⟨Nat.le_refl _⟩,⟨az.out⟩,⟨HK.out⟩,⟨HB.out⟩⟩
 case round =>
  clear H';try clear c2
  try clear p2
  obtain ⟨ae,af,aa,rfl,rfl,HA,ao,ac,HK,HB⟩:=hrel;cases gk with
  | zero=>exact absurd HA.out (by simp [laws_markIntS.l0])
  | succ k1 =>
   have H:=HA.out;clear HA;simp only [laws_markIntS.l0] at H;by_cases c3:aa < (ae.length:Int)
   ·rw [if_pos c3] at H;have al:decide (aa < (ae.length:Int))=true:=decide_eq_true c3;clear c3;by_cases c4:0≤aa
    ·rw [if_pos c4] at H;have aA:decide (0≤aa)=true:=decide_eq_true c4;clear c4;obtain ⟨ai,ag⟩:∃ y_:List Int,y_=(ae.set (aa:Int).toNat af):=⟨_,rfl⟩;replace H:(laws_markIntS.l0 k1 ai (wrap64 (af + 1)) (wrap64 (aa + 1)))=some (r1,r2):=by first|(rw [ag];with_reducible exact H)|(have am:=(Option.bind_some _ _).symm.trans H;rw [ag];with_reducible exact am)|(have am:=(Option.bind_some _ _).symm.trans H;with_reducible exact am)|with_reducible exact H|(rw [ag];exact H)|exact H
     have aj:=qK ag;clear ag;have H':=qK H;clear H;obtain ⟨aH,aB,aC⟩:=Kd.R_slice ac.out;subst aC;have p5:0≤(aa:Int):=of_decide_eq_true (by assumption);have q5:(aa:Int) < ((ae.length:Int):Int):=of_decide_eq_true (by assumption);obtain ⟨ak,aI,ap,aq,aD,aJ,ar⟩:=Kd.R_form ac.out (by omega);(first|cases ap|(injection ap with ea_ en_ ec_;(first|subst ea_|(injection ea_ with ea_;subst ea_));subst ec_;clear en_));have aE:=qK aq;have aK:=qK ar;clear aq aD ar;have HMgo5:=qK (show (ah ak ∨ w.heap.size≤ak) from (ac.out.1 _ rfl));obtain ⟨au,av⟩:=Kd.R_celln 0 ac.out (aa:Int) p5 q5;replace p5:=eq_true p5;replace q5:=eq_true q5;have an:=Kd.R_putg ac.out (aa:Int) af;go_wp2_with (first|((with_reducible refine gate_store (t:=3) (p:=15) rfl ?_);refine store_event (t:=3) (p:=15) (v:=?vo_w8) (w1:=(wr.setCell ⟨ak,(aa:Int).toNat,none⟩ (.int .i64 af))) ?hg ?ho ?hn ?hr ?_;(case ho=>rfl);(case hg=>rfl);(case hn=>rfl);(case hr=>(go_simp;try rfl));intro w8 hw;have hg:wr.grownBy w8 (some ak):=(by rw [hw];exact an.2);have hp_:Kd.R (Kd.int .i64) 3 w8 w0.heap.size (fun k_=>(ah k_ ∨ w.heap.size≤k_)) (.slice (some ⟨ak,0,none⟩) ae.length aB) ai:=(by rw [hw,aj.out];exact an.1);clear an;have aw:=qK (hp_);have ax:=qK ((by rw [hw];exact qS (HB.out) aE.out:Below w0.heap.size w0 w8));have ay:=qK (Kept.of_grown (S:=(fun k_=>ah k_)) hg (HK.out) (fun k_ e_=>(ac.out.1 k_ e_)));clear ac HB HK;have ac:=aw;have HB:=ax;have HK:=ay;clear aw ax ay;clear hg hw hp_))
     go_roundg k1
     case measure=>have:=ao.out;omega
     case rel=>exact ⟨(ai),(wrap64 (af + 1)),(wrap64 (aa + 1)),(by rfl),(by rfl),H',⟨by have:=ao.out;omega⟩,⟨ac.out⟩,⟨HK.out⟩,⟨HB.out⟩⟩
    ·rw [if_neg c4] at H;exact absurd H (by simp)
   ·rw [if_neg c3] at H;have al:decide (aa < (ae.length:Int))=false:=decide_eq_false c3;clear c3;simp only [Option.some.injEq,Prod.mk.injEq] at H;obtain ⟨rfl,rfl⟩:=H;obtain ⟨aL,aM,aF⟩:=Kd.R_slice ac.out;subst aF;go_wp2
    go_ret
    exact ⟨by rfl,ac.out,HB.out,HK.out⟩

/-! ### laws_markAtomS: function 81 -/
def laws_markAtomS.l0 : Nat → List S97 → Int → Int → Option (Int × List S97)
  | 0, _, _, _ => none
  | k + 1, x0, x1, x5 => if x5 < (x0.length : Int) then (if 0 ≤ x5 then ((fun y0_ => (laws_markIntS.f k (rd_T97 y0_ x5).f1 (wrap64 (x1 + 1))).bind fun m1 => laws_markAtomS.l0 k (y0_.set (x5 : Int).toNat ⟨(rd_T97 y0_ x5).f0, m1.2⟩) m1.1 (wrap64 (x5 + 1))) (x0.set (x5 : Int).toNat ⟨x1, (rd_T97 x0 x5).f1⟩)) else none) else some (x1, x0)
def laws_markAtomS.f (k : Nat) (l0 : List S97) (a1 : Int) : Option (Int × List S97) := laws_markAtomS.l0 k l0 a1 0
theorem laws_markAtomS.mono_l : ∀ k y0 y1 y2, LeO (laws_markAtomS.l0 k y0 y1 y2) (laws_markAtomS.l0 (k + 1) y0 y1 y2)
  | 0 => fun _ _ _ r h => by simp [laws_markAtomS.l0] at h
  | k + 1 => by
    intro y0 y1 y2
    unfold laws_markAtomS.l0
    exact LeO.ite (LeO.ite (LeO.bind (laws_markIntS.mono _ _ _) fun _ => laws_markAtomS.mono_l k _ _ _) (LeO.none _)) (LeO.refl _)
theorem laws_markAtomS.mono : ∀ a0 a1 k, LeO (laws_markAtomS.f k a0 a1) (laws_markAtomS.f (k + 1) a0 a1) := fun a0 a1 k => laws_markAtomS.mono_l k _ _ _
set_option maxHeartbeats 8000000 in
set_option maxRecDepth 100000 in
theorem laws_markAtomS.calls (k : Nat) (ai : Nat → Prop) (ae : Value) (l0 : List S97) (a1 : Int) (r1 : Int) (r2 : List S97) (w0 w : World) (hB : Below w0.heap.size w0 w) (ho0 : Kd.S k97 97 w w0.heap.size ai ae l0) (h : laws_markAtomS.f k l0 a1 = some (r1, r2)) :
    Calls Try.prog 81 #[ae, .int .i64 a1] w fun e w' => e = .returned (.int .i64 r1) ∧ Kd.S k97 97 w' w0.heap.size ai ae r2 ∧ Below w0.heap.size w0 w' ∧ Kept w w' ai := by
  have hu := Try.underlying97
  have af := Aside0.mk ho0
  have HK := Aside0.mk (Kept.refl w ai)
  have HB := Aside0.mk hB
  clear hB ho0
  have H' := Aside0.mk (show laws_markAtomS.l0 k l0 a1 0 = some (r1, r2) from h)
  clear h
  go_enter Try.func81, Try.ntmps81
  go_wp2
  go_loopg [1, 5] k (fun kq v1 v5 w' => ∃ (ab : List S97) (ac : Int) (aa : Int), v1 = .int .i64 ac ∧ v5 = .int .i64 aa ∧ Aside0 (laws_markAtomS.l0 kq ab ac aa = some (r1, r2)) ∧ Aside0 (kq ≤ k) ∧ Aside0 (Kd.S k97 97 w' w0.heap.size ai ae ab) ∧ Aside0 (Kept w w' ai) ∧ Aside0 (Below w0.heap.size w0 w'))
  case atStart => exact ⟨l0, a1, 0, rfl, rfl, H', ⟨Nat.le_refl _⟩, af, HK, HB⟩
  case round =>
    clear H' af HK HB
    obtain ⟨ab, ac, aa, rfl, rfl, HA, aJ, af, HK, HB⟩ := hrel
    cases gk with
    | zero => exact absurd HA.out (by simp [laws_markAtomS.l0])
    | succ k1 =>
      have H := HA.out
      clear HA
      simp only [laws_markAtomS.l0] at H
      by_cases c3 : aa < (ab.length : Int)
      · rw [if_pos c3] at H
        have av : decide (aa < (ab.length : Int)) = true := decide_eq_true c3
        by_cases c4 : 0 ≤ aa
        · rw [if_pos c4] at H
          have aT : decide (0 ≤ aa) = true := decide_eq_true c4
          have p5 := c4
          have q5 := c3
          clear c3 c4
          have L0 : ab.length = ab.length := rfl
          obtain ⟨bk, aU, aV⟩ := Kd.S_slice af.out
          subst aV
          obtain ⟨al, bl, aK, aL, aW, aX, aY⟩ := Kd.S_form af.out (by omega)
          (first | cases aK | (injection aK with ea_ en_ ec_; (first | subst ea_ | (injection ea_ with ea_; subst ea_)); subst ec_; clear en_))
          have aZ := Aside0.mk aL
          clear aL aW aY aX
          obtain ⟨aw, ba, ax, ay, am, an, hoki0, aM⟩ := Kd.S_elem af.out z97 aa p5 q5
          replace ay : k97.M wr w0.heap.size aw (rd_T97 ab aa) ba := ay
          obtain ⟨v0, rfl, g0⟩ := k97_openM ay
          have bb := Aside0.mk hoki0
          have aN := Aside0.mk g0
          have aO := Aside0.mk aM
          have az : wr.cell? ⟨al, aa.toNat * 2, none⟩ = some _ := am 0 _ rfl
          have aA : wr.frozen? ⟨al, aa.toNat * 2, none⟩ = false := an 0
          obtain ⟨aj, ag⟩ : ∃ y_ : List S97, y_ = ab.set aa.toNat ⟨ac, (rd_T97 ab aa).f1⟩ := ⟨_, rfl⟩
          have ah := Kd.S_seg0 (j := 0) (seg := [.int .i64 ac]) aO.out p5 q5 (by show 0 + 1 ≤ 2; decide) (x' := ⟨ac, (rd_T97 ab aa).f1⟩) (k97_mkM _ _ _ ⟨ac, (rd_T97 ab aa).f1⟩ aN.out) (fun _ hk_ => hk_)
          rw [← ag] at ah
          have bc := Aside0.mk ag
          have bd := Aside0.mk (show aj.length = ab.length by rw [ag, List.length_set])
          clear ag ax am an hoki0 g0 aM
          replace p5 := eq_true p5
          replace q5 := eq_true q5
          go_upto_region 5 with ((with_reducible refine gate_store (t := 3) (p := 16) rfl ?_); refine store_event (t := 3) (p := 16) (v := ?vo0_) (w1 := (wr.setCell ⟨al, aa.toNat * 2, none⟩ (.int .i64 ac))) ?hg ?ho ?hn ?hr ?_; (case ho => rfl); (case hg => rfl); (case hn => rfl); (case hr => first | (go_simp; done) | (go_simp; rfl)); intro ao hw_; have hg_ : wr.grownBy ao (some al) := (by rw [hw_]; exact ah.2); have hp_ : Kd.S k97 97 ao w0.heap.size ai (.slice (some ⟨al, 0, none⟩) ab.length aU) aj := (by rw [hw_]; exact ah.1); have aB := Aside0.mk hp_; have aP := Aside0.mk (show Below w0.heap.size w0 ao by rw [hw_]; exact below_set HB.out aZ.out); have ap := Aside0.mk (Kept.of_grown (S := ai) hg_ HK.out (fun k_ e_ => .inl (by injection e_ with e_; subst e_; exact (aB.out |> Kd.S_R).1 _ rfl))); clear hw_ hg_ hp_)
          clear ah aO aN bb af HK HB az aA
          replace p5 := of_eq_true p5
          replace q5 := of_eq_true q5
          obtain ⟨ak, be, aC, aD, aq, aE, hoki1, aQ⟩ := Kd.S_elem aB.out z97 aa p5 q5
          replace aD : k97.M ao w0.heap.size ak (rd_T97 aj aa) be := aD
          obtain ⟨v1, rfl, g1⟩ := k97_openM aD
          have aR := Aside0.mk hoki1
          have au := Aside0.mk g1
          have aS := Aside0.mk aQ
          have aF : ao.cell? ⟨al, aa.toNat * 2 + 1, none⟩ = some v1 := aq 1 _ rfl
          clear aC aq aE hoki1 g1 aQ
          rw [← bc.out] at H
          obtain ⟨⟨m1, z1⟩, A1, H⟩ := Option.bind_eq_some_iff.1 H
          have B1 := Aside0.mk (show laws_markIntS.f k1 (rd_T97 aj aa).f1 (wrap64 (ac + 1)) = some (m1, z1) from A1)
          have H1' := Aside0.mk H
          clear H A1
          replace p5 := eq_true p5
          replace q5 := eq_true q5
          obtain ⟨bm, bn, bf⟩ := Kd.R_slice au.out
          subst bf
          go_upto_region 3 with (go_at_call 23; refine (laws_markIntS.calls k1 ak _ _ (wrap64 (ac + 1)) m1 z1 w0 _ aP.out au.out B1.out).mono ?_; rintro e bo ⟨rfl, hr, hb, hk⟩)
          have bg := Aside0.mk hb
          have aG := Aside0.mk (R_again rfl au.out hr)
          have ar := Kd.H_kept aS.out hk (fun k_ _ hn_ aH => hn_ aH)
          have aI := Aside0.mk (ap.out.then_ hk (fun k_ aH => .inl (aR.out k_ aH).1))
          have bh : (rd_T97 aj aa).f1.length = z1.length := (Kd.R_reads' aG.out).1
          have bi := Aside0.mk (Kd.H_back ar (x' := ⟨(rd_T97 aj aa).f0, z1⟩) (okp := ak) (k97_mkM _ _ _ ⟨(rd_T97 aj aa).f0, z1⟩ aG.out) (fun _ hk_ => hk_))
          clear hr hb hk aF ar aG aS au aR bh aB ap aP
          go_wp2
          go_roundg k1
          case measure => have := aJ.out; omega
          case rel => exact ⟨_, m1, _, rfl, rfl, H1', ⟨by have := aJ.out; omega⟩, bi, aI, bg⟩
        · rw [if_neg c4] at H
          exact absurd H (by simp)
      · rw [if_neg c3] at H
        have av : decide (aa < (ab.length : Int)) = false := decide_eq_false c3
        simp only [Option.some.injEq, Prod.mk.injEq] at H
        obtain ⟨rfl, rfl⟩ := H
        obtain ⟨bp, bq, bj⟩ := Kd.S_slice af.out
        subst bj
        go_wp2
        go_ret
        exact ⟨rfl, af.out, HB.out, HK.out⟩

/-! ### laws_markQuery: function 22 -/
def laws_markQuery.f (k : Nat) (l0_0 : List Int) (l0_1 : List S97) (a1 : Int) : Option (Int × List Int × List S97) := (laws_markIntS.f k l0_0 a1).bind fun m0 => (laws_markAtomS.f k l0_1 m0.1).bind fun m1 => some (m1.1, m0.2, m1.2)
theorem laws_markQuery.mono : ∀ a0 a1 a2 k, LeO (laws_markQuery.f k a0 a1 a2) (laws_markQuery.f (k + 1) a0 a1 a2) := fun a0 a1 a2 k => LeO.bind (laws_markIntS.mono _ _ _) fun _ => LeO.bind (laws_markAtomS.mono _ _ _) fun _ => LeO.refl _
set_option maxHeartbeats 8000000 in
set_option maxRecDepth 100000 in
theorem laws_markQuery.calls (k : Nat) (ac ae : Nat → Prop) (u0 u1 : Value) (aa : List Int) (ab : List S97) (a1 r1 : Int) (r2 : List Int) (r3 : List S97) (w0 w : World) (hB : Below w0.heap.size w0 w) (ho0_0 : Kd.R (Kd.int .i64) 3 w w0.heap.size ac u0 aa) (ho0_1 : Kd.S k97 97 w w0.heap.size ae u1 ab) (hd : ∀ k, ac k → ¬ ae k) (h : laws_markQuery.f k aa ab a1 = some (r1, r2, r3)) :
    Calls Try.prog 22 #[.agg #[u0, u1], .int .i64 a1] w fun e w' => e = .returned (.int .i64 r1) ∧ Kd.R (Kd.int .i64) 3 w' w0.heap.size ac u0 r2 ∧ Kd.S k97 97 w' w0.heap.size ae u1 r3 ∧ Below w0.heap.size w0 w' ∧ Kept w w' (fun k_ => ac k_ ∨ ae k_) := by
  unfold laws_markQuery.f at h
  obtain ⟨⟨m0, y0⟩, A0, h⟩ := Option.bind_eq_some_iff.1 h
  obtain ⟨⟨m1, y1⟩, A1, h⟩ := Option.bind_eq_some_iff.1 h
  simp only [Option.some.injEq, Prod.mk.injEq] at h
  obtain ⟨rfl, rfl, rfl⟩ := h
  obtain ⟨ah, ai, am⟩ := Kd.R_slice ho0_0
  subst am
  obtain ⟨aj, ak, an⟩ := Kd.S_slice ho0_1
  subst an
  have B0 := Aside0.mk A0
  have B1 := Aside0.mk A1
  have HB := Aside0.mk hB
  have F0 := Aside0.mk ho0_0
  have F1 := Aside0.mk ho0_1
  have HD := Aside0.mk hd
  have hu := Try.underlying32
  clear A0 A1 hB ho0_0 ho0_1 hd
  go_enter Try.func22, Try.ntmps22
  go_upto_region 2 with (first | ((with_reducible refine gate_dst (N := 2) rfl ?_); refine box_event ?hg (N := 2) ?hd (cs := #[.slice ah aa.length ai, .slice aj ab.length ak]) (t := 32) ?hr ?_; (case hd => rfl); (case hg => rfl); (case hr => first | (go_simp; done) | (go_simp; rfl)); intro gb hg w1 hbox hb; have HG := Aside0.mk (show w.heap.size ≤ gb from by rw [hg]; exact Nat.le_refl _); have ao := Aside0.mk (below_step HB.out hb); have ap := Aside0.mk (Kept.of_below hb (fun k_ => ac k_ ∨ ae k_)); have al := Aside0.mk (Kd.R_mono (Kd.R_below (Kd.R_bound F0.out) hb) (fun k_ hk_ => (⟨hk_.1, hk_.2.2.1⟩ : ac k_ ∧ k_ < w.heap.size))); have aq := Aside0.mk (Kd.S_mono (Kd.S_below (Kd.S_bound F1.out) hb) (fun k_ hk_ => (⟨hk_.1, hk_.2.2.1⟩ : ae k_ ∧ k_ < w.heap.size))); have ar := Aside0.mk hbox; have au : w1.cell? ⟨gb, 0, none⟩ = some (.slice ah aa.length ai) := (blk_cell hbox 0).trans rfl; clear hg hbox hb) | (go_at_call 23; refine (laws_markIntS.calls (w0 := w0) (hB := ao.out) (ho0 := al.out) (h := B0.out)).mono ?_; rintro e w2 ⟨rfl, hy, hb, hk⟩; have av := Aside0.mk hb; have G0 := Aside0.mk (R_again rfl al.out hy); have aw := Aside0.mk (blk_kept ar.out hk (fun h_ => Nat.lt_irrefl _ (Nat.lt_of_lt_of_le h_.2 HG.out))); have G1 := Aside0.mk (Kd.S_kept aq.out hk (fun k_ af ag => HD.out k_ ag.1 af.1)); have ax := Aside0.mk (ap.out.then_ hk (fun k_ h_ => .inl (.inl h_.1))); clear hy hb hk))
  have ay : w2.cell? ⟨gb, 1, none⟩ = some (.slice aj ab.length ak) := (blk_cell aw.out 1).trans rfl
  go_wp2_with (go_at_call 81; refine (laws_markAtomS.calls (w0 := w0) (hB := av.out) (ho0 := G1.out) (h := B1.out)).mono ?_; rintro e w3 ⟨rfl, hy, hb, hk⟩)
  go_ret
  exact ⟨rfl, Kd.R_mono (Kd.R_kept G0.out hk (fun k_ ag af => HD.out k_ ag.1 af.1)) (fun _ h_ => h_.1), Kd.S_mono hy (fun _ h_ => h_.1), hb, ax.out.then_ hk (fun k_ h_ => .inl (.inr h_.1))⟩

/-! ### idxf_Int: function 190 -/
set_option maxHeartbeats 4000000 in
set_option maxRecDepth 100000 in
theorem idxf_Int.calls (A : Option Addr) (c : Nat) (l : List (Int)) (g : Nat) (lb : Array Value) (p : Int → Bool) (w : World) (eg : ∀ args w, (callFunc g args).run Try.prog w = .ok (.enter g args) w)
    (hr : Kd.C (Kd.int .i64) w A l.length l) (hp : PredOn Try.prog g lb (One (Kd.int .i64)) p l w) :
    Calls Try.prog 190 #[.slice A l.length c, .func (.func g) #[] lb] w fun e w' => e = .returned (.int .i64 (idxf p l)) ∧ Below w.heap.size w w' := by
  have hl : l.length ≤ 9223372036854775807 := hr.2.1
  have HR := Aside0.mk hr
  clear hr
  have HP := Aside0.mk hp
  clear hp
  go_enter Try.func190, Try.ntmps190
  go_wp2
  go_loopg [5, 8] l.length (fun gg _ s8 wr => ∃ kk : Nat, kk ≤ l.length ∧ l.length - kk ≤ gg ∧ s8 = .int .i64 kk ∧ Aside0 (Below w.heap.size w wr) ∧ Aside0 (∀ j, (hj : j < l.length) → j < kk → p l[j] = false))
  case atStart => exact ⟨0, Nat.zero_le _, by omega, rfl, ⟨Below.refl _ w⟩, ⟨fun j hj h => absurd h (Nat.not_lt_zero _)⟩⟩
  case round =>
    obtain ⟨kk, hkk, hg, rfl, BW, AA⟩ := hrel
    by_cases hlt : kk < l.length
    · have hltz : (kk : Int) < (l.length : Int) := by omega
      have hmem : l[kk] ∈ l := List.getElem_mem hlt
      obtain ⟨ad, cs, e1, hlen, hK, hcell⟩ := Kd.C_get (Kd.C_below HR.out BW.out) l[kk] (kk : Int) (by omega) (by omega)
      cases e1
      have hrd : l.getD (kk : Int).toNat l[kk] = l[kk] := by simp [hlt]
      rw [hrd] at hK
      replace hlen : cs.length = 1 := hlen
      obtain ⟨aa, rfl⟩ : ∃ aa : Value, cs = [aa] := list_len1 hlen
      replace hcell : ∀ j u, ([aa] : List Value)[j]? = some u → wr.cell? (ad.add ((kk : Int).toNat * 1 + j)) = some u := hcell
      have ac : wr.cell? (ad.add kk) = some aa := by have := hcell 0 _ rfl; simpa using this
      have hcall := HP.out wr l[kk] (aa) hmem BW.out hK
      clear hcell hK hlen hmem hrd
      have AY : Aside0 (∃ y, y = l[kk]) := ⟨⟨_, rfl⟩⟩
      obtain ⟨⟨y, hy⟩⟩ := AY
      rw [← hy] at hcall
      have HY := Aside0.mk hy
      clear hy
      cases hq : p y with
      | true =>
        rw [hq] at hcall
        have HQ := Aside0.mk hq
        clear hq
        go_wp2_with (go_at_fn g; refine hcall.mono ?_; rintro e w' ⟨rfl, hb'⟩)
        go_ret
        refine ⟨?_, below_step BW.out hb'⟩
        rw [idxf_hit hlt (by rw [← HY.out]; exact HQ.out) (fun j hj => AA.out j (by omega) hj)]
        rfl
      | false =>
        rw [hq] at hcall
        have HQ := Aside0.mk hq
        clear hq
        go_wp2_with (go_at_fn g; refine hcall.mono ?_; rintro e w' ⟨rfl, hb'⟩)
        go_roundg (l.length - (kk + 1))
        case measure => omega
        case rel =>
          refine ⟨kk + 1, by omega, by omega, by go_num, ⟨below_step BW.out hb'⟩, ⟨fun j hj ab => ?_⟩⟩
          by_cases e : j = kk
          · subst e
            rw [← HY.out]; exact HQ.out
          · exact AA.out j hj (by omega)
    · have hltz : ¬ (kk : Int) < (l.length : Int) := by omega
      go_wp2
      go_ret
      refine ⟨?_, BW.out⟩
      rw [idxf_miss (fun j hj => AA.out j hj (by omega))]
      rfl

/-! ### anyf_Int: function 155 -/
set_option maxHeartbeats 4000000 in
set_option maxRecDepth 100000 in
theorem anyf_Int.calls (A : Option Addr) (c : Nat) (l : List (Int)) (g : Nat) (lb : Array Value) (p : Int → Bool) (w : World) (eg : ∀ args w, (callFunc g args).run Try.prog w = .ok (.enter g args) w)
    (hr : Kd.C (Kd.int .i64) w A l.length l) (hp : PredOn Try.prog g lb (One (Kd.int .i64)) p l w) :
    Calls Try.prog 155 #[.slice A l.length c, .func (.func g) #[] lb] w fun e w' => e = .returned (.bool (l.any p)) ∧ Below w.heap.size w w' := by
  rw [← idxf_any p l]
  have HR := Aside0.mk hr
  clear hr
  have HP := Aside0.mk hp
  clear hp
  obtain ⟨i, hi⟩ : ∃ i, i = idxf p l := ⟨_, rfl⟩
  rw [← hi]
  have HI := Aside0.mk hi
  clear hi
  go_enter Try.func155, Try.ntmps155
  go_wp2_with (go_at_call 190; refine (idxf_Int.calls A c l g lb p _ eg HR.out HP.out).mono ?_; rw [← HI.out]; rintro e w' ⟨rfl, hb'⟩)
  go_ret
  exact ⟨rfl, hb'⟩

/-! ### areAll1_Int: function 156 -/
set_option maxHeartbeats 4000000 in
set_option maxRecDepth 100000 in
theorem areAll1_Int.pred (B : Nat) (l : List (Int)) (g : Nat) (lb : Array Value) (p : Int → Bool) (w : World) (eg : ∀ args w, (callFunc g args).run Try.prog w = .ok (.enter g args) w)
    (hB : w.cell? ⟨B, 0, none⟩ = some (.func (.func g) #[] lb)) (hp : PredOn Try.prog g lb (One (Kd.int .i64)) p l w) :
    PredOn Try.prog 156 #[.pointer (some ⟨B, 0, none⟩)] (One (Kd.int .i64)) (fun x => !p x) l w := by
  intro W x v hx hW hv
  obtain ⟨c0_, rfl⟩ : ∃ c0_, c0_ = v := ⟨_, rfl⟩
  have hB' : W.cell? ⟨B, 0, none⟩ = some (.func (.func g) #[] lb) := pw_cell_below hW hB
  have HP := Aside0.mk hp
  clear hp hB
  obtain ⟨b, hb⟩ : ∃ b, b = p x := ⟨_, rfl⟩
  have hb0 := Aside0.mk hb
  have HV := Aside0.mk hv
  have HWW := Aside0.mk hW
  clear hv hW
  show Calls Try.prog 156 #[c0_, .pointer (some ⟨B, 0, none⟩)] W fun e W' => e = .returned (.bool (!p x)) ∧ Below W.heap.size W W'
  rw [← hb]
  clear hb
  cases b with
  | true =>
    go_enter Try.func156, Try.ntmps156
    go_wp2_with (go_at_fn g; refine (HP.out _ x _ hx HWW.out HV.out).mono ?_; rw [← hb0.out]; rintro e w' ⟨rfl, hb'⟩)
    go_ret
    exact ⟨rfl, hb'⟩
  | false =>
    go_enter Try.func156, Try.ntmps156
    go_wp2_with (go_at_fn g; refine (HP.out _ x _ hx HWW.out HV.out).mono ?_; rw [← hb0.out]; rintro e w' ⟨rfl, hb'⟩)
    go_ret
    exact ⟨rfl, hb'⟩

end Go.Proofs.Ytboligpcbndkjaa.PFnExactCoreOf
