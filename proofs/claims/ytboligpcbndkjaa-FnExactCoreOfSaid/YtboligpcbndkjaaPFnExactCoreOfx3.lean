/-
  A text of this claim's own, printed by a program of the session (wip/tools/xprint.py): functions of the program as Lean functions, each with what its call comes to.
-/
import Derived.Test.YtboligpcbndkjaaPFnExactCoreOfx0
import Derived.Test.YtboligpcbndkjaaPFnExactCoreOfx2
namespace Go.Proofs.Ytboligpcbndkjaa.PFnExactCoreOf
open Go.Proofs.YtboligpcbndkjaaW.PrintWords renaming pw_below_drewN → qD, blk_cell → qC, below_drew1 → qO, below_alloc → qA, blk_frozen → qF, below_set → qS, blk_drewN → qN, blk_alloc → qL, blk_drew → qW, below_size → qZ, below_step → qT, blk_below → qB, blk_far → qR, blk_put → qP
open Go.Proofs.YtboligpcbndkjaaW.PrintWords.Aside0 renaming mk → qK
open Bool renaming true → Y, false → Z
open List renaming setIfInBounds_toArray → sIb, set_cons_zero → sZ, set_cons_succ → sS, map_toArray → mT, map_cons → mC, map_nil → mN, length_drop → lD, length_take → lT
open Go.Proofs.YtboligpcbndkjaaW.PrintWords.Kd renaming C_alloc → cL, C_drewN → cN, C_drew → cW, C_below → cB, R_alloc → rL, R_drewN → rN, R_drew → rW, R_below → rB
open Go.RowKit Go.Proofs.YtboligpcbndkjaaW.PrintWords Go.Proofs.YtboligpcbndkjaaW.PrintLast Go.Proofs.YtboligpcbndkjaaW.PrintMore
attribute [local go_sem] max2_int min2_int max_two min_two max_three min_three max_four min_four   -- for this text's walks alone
set_option linter.unusedVariables false
set_option linter.unusedSimpArgs false

/-! ### impl_isQuery: function 117 -/
def impl_isQuery.f (k:Nat) (l0_0:List Int) (l0_1:List (S97)) (l1:List Int):Option (Bool):=(impl_within.f (l0_1.length:Int) 1 5).bind fun t177=>(if t177=true then ((areAll_impl_isQuery_1.f l0_1 l1).bind fun t178=>(if t178=true then ((impl_isHead.f k l0_0 l0_1).bind fun t179=>(some t179)) else (some false))) else (some false))
theorem impl_isQuery.mono : ∀ a0 a1 a2 k,LeO (impl_isQuery.f k a0 a1 a2) (impl_isQuery.f (k + 1) a0 a1 a2):=by
 intro a0 a1 a2 k;unfold impl_isQuery.f
 repeat' first
   | (with_reducible exact impl_isHead.mono _ _ _)
   | (with_reducible exact LeO.refl _)
   | (with_reducible exact LeO.none _)
   | (with_reducible refine LeO.ite ?_ ?_)
   | (with_reducible refine LeO.bind ?_ (fun _=>?_))
   | exact impl_isHead.mono _ _ _
   | exact LeO.none _
   | refine LeO.ite ?_ ?_
   | refine LeO.bind ?_ (fun _=>?_)
set_option maxHeartbeats 8000000 in
set_option maxRecDepth 100000 in
theorem impl_isQuery.calls (k:Nat) (ap:Option Addr) (aq:Nat) (ah:List Int) (ar:Option Addr) (au:Nat) (ac:List (S97)) (A1:Option Addr) (c1:Nat) (l1:List Int) (r:Bool) (w:World) (hr0_0:Kd.C (Kd.int .i64) w ap ah.length ah) (hc0_0:ah.length≤aq) (hr0_1:Kd.C k97 w ar ac.length ac) (hc0_1:ac.length≤au) (hr1:Kd.C (Kd.int .i64) w A1 l1.length l1) (hc1:l1.length≤c1) (h:impl_isQuery.f k ah ac l1=some r) :
  Calls Try.prog 117 #[.agg #[.slice ap ah.length aq,.slice ar ac.length au],.slice A1 l1.length c1] w fun e w'=>e=.returned (.bool r)∧Below w.heap.size w w':=by
 have bq:=Try.underlying32;have aG:=qK hr0_0;have aH:=qK hc0_0;clear hr0_0 hc0_0;have aw:=qK hr0_1;have ax:=qK hc0_1;clear hr0_1 hc0_1;have bc:=qK hr1;have bd:=qK hc1;clear hr1 hc1;have HB:=qK (Below.refl w.heap.size w);have H:((impl_within.f (ac.length:Int) 1 5).bind fun az=>(if az=true then ((areAll_impl_isQuery_1.f ac l1).bind fun av=>(if av=true then ((impl_isHead.f k ah ac).bind fun an=>(some an)) else (some false))) else (some false)))=some r:=h;clear h;replace H:=Option.bind_eq_some_iff.mp H;obtain ⟨az,be,H⟩:=H;replace H:(if az=true then ((areAll_impl_isQuery_1.f ac l1).bind fun av=>(if av=true then ((impl_isHead.f k ah ac).bind fun an=>(some an)) else (some false))) else (some false))=some r:=H;have A3:=qK be;clear be;by_cases c4:az=true
 ·subst c4;have H1:((areAll_impl_isQuery_1.f ac l1).bind fun av=>(if av=true then ((impl_isHead.f k ah ac).bind fun an=>(some an)) else (some false)))=some r:=by rw [if_pos rfl] at H;exact H
  clear H;have H:=H1;clear H1;replace H:=Option.bind_eq_some_iff.mp H;obtain ⟨av,bf,H⟩:=H;replace H:(if av=true then ((impl_isHead.f k ah ac).bind fun an=>(some an)) else (some false))=some r:=H;have A5:=qK bf;clear bf;by_cases c6:av=true
  ·subst c6;have H1:((impl_isHead.f k ah ac).bind fun an=>(some an))=some r:=by rw [if_pos rfl] at H;exact H
   clear H;have H:=H1;clear H1;replace H:=Option.bind_eq_some_iff.mp H;obtain ⟨an,bg,H⟩:=H;replace H:(some an)=some r:=H;have A7:=qK bg;clear bg;obtain rfl:=Option.some.inj H;go_enter Try.func117,Try.ntmps117
   go_wp2_with (first|((with_reducible refine gate_dst (N:=2) rfl ?_);refine box_event ?hg (N:=2) ?hd (cs:=#[.slice ap ah.length aq,.slice ar ac.length au]) (t:=32) ?hr ?_;(case hd=>rfl);(case hg=>rfl);(case hr=>(go_simp;try rfl));intro ab hg w8 hbox hb;have al:=qK (qT (by exact HB.out) hb);have am:=qK (hbox);have ai:=qK ((by rw [hg];exact (qZ (by exact HB.out)):w.heap.size≤ab));have ao:=ai;clear HB;have HB:=al;have aa:=am;have aA:=ai;have aj:=ao;clear al am ai ao;clear hb hbox hg)|((with_reducible refine gate_dst (N:=3) rfl ?_);refine box_event ?hg (N:=3) ?hd (cs:=#[.slice A1 l1.length c1]) (t:=22) ?hr ?_;(case hd=>rfl);(case hg=>rfl);(case hr=>(go_simp;try rfl));intro ad hg w9 hbox hb;have al:=qK (qB (g:=ab) (o:=_) (by exact aa.out) hb);have am:=qK (qT (by exact HB.out) hb);have ai:=qK (hbox);have ao:=qK ((by rw [hg];exact (qZ (by exact HB.out)):w.heap.size≤ad));have aC:=ao;have ay:=qK ((by rw [hg];exact Nat.ne_of_lt (blk_lt (g:=ab) (o:=_) (by exact aa.out)):ab ≠ ad));have aD:=qK ay.out.symm;clear aa HB;have aa:=al;have HB:=am;have ae:=ai;have aE:=ao;have ak:=aC;have af:=ay;have ag:=aD;clear al am ai ao aC ay aD hb hbox hg;have bh:=af.out;have bi:=ag.out;have aI:w9.cell? ⟨ab,0,none⟩=some (.slice ap ah.length aq):=(qC aa.out 0).trans rfl;have aJ:w9.cell? ⟨ab,1,none⟩=some (.slice ar ac.length au):=(qC aa.out 1).trans rfl;have aK:=qF aa.out 0;have aM:=qF aa.out 1)|((with_reducible refine gate_callee (f:=105) rfl ?_);refine goesL_ (some 8) rfl rfl Try.func105 (by kernel_rfl) rfl #[.int .i64 (ac.length:Int),.int .i64 1,.int .i64 5] rfl (by (try simp only [mT,mC,mN]);first|done|rfl|(simp only [lD,lT];rfl)) ?_;(with_reducible refine (impl_within.calls (ac.length:Int) 1 5 true _ A3.out).mono ?_);rintro e w' ⟨rfl,⟨nd,rfl⟩⟩;refine ⟨_,rfl,?_⟩)|(go_at_call 120;(with_reducible refine (areAll_impl_isQuery_1.calls _ _ ac ad A1 c1 l1 true _ ?side1 ?side2 ?side3 ?side4 ?side5 A5.out).mono ?_);(case side1=>exact (cB aw.out (by repeat (with_reducible first|exact HB.out|apply qA|apply qD|apply qO|refine qS ?_ aj.out|refine qS ?_ ak.out))));(case side2=>exact ax.out);(case side3=>exact (cB bc.out (by repeat (with_reducible first|exact HB.out|apply qA|apply qD|apply qO|refine qS ?_ aj.out|refine qS ?_ ak.out))));(case side4=>exact bd.out);(case side5=>exact (by exact ae.out));rintro e bj ⟨rfl,hb⟩;have al:=qK (qB (g:=ab) (o:=_) (by exact aa.out) hb);have am:=qK (qB (g:=ad) (o:=_) (by exact ae.out) hb);have ai:=qK (qT (by repeat (with_reducible first|exact HB.out|apply qA|apply qD|apply qO|refine qS ?_ aj.out|refine qS ?_ ak.out)) hb);clear aa ae HB;have aa:=al;have ae:=am;have HB:=ai;clear al am ai;(try clear hb);have aN:bj.cell? ⟨ab,0,none⟩=some (.slice ap ah.length aq):=(qC aa.out 0).trans rfl;have aQ:bj.cell? ⟨ab,1,none⟩=some (.slice ar ac.length au):=(qC aa.out 1).trans rfl;have aR:=qF aa.out 0;have aT:=qF aa.out 1)|(go_at_call 161;(with_reducible refine (impl_isHead.calls k _ _ ah _ _ ac an _ ?side1 ?side2 ?side3 ?side4 A7.out).mono ?_);(case side1=>exact (cB aG.out HB.out));(case side2=>exact aH.out);(case side3=>exact (cB aw.out HB.out));(case side4=>exact ax.out);rintro e br ⟨rfl,hb⟩;have al:=qK (qB (g:=ab) (o:=_) (by exact aa.out) hb);have am:=qK (qB (g:=ad) (o:=_) (by exact ae.out) hb);have ai:=qK (qT (by exact HB.out) hb);clear aa ae HB;have aa:=al;have ae:=am;have HB:=ai;clear al am ai;(try clear hb)))
   go_ret
   exact ⟨by rfl,HB.out⟩
  ·replace c6:=Bool.eq_false_iff.mpr c6;subst c6;have H1:(some false)=some r:=by rw [if_neg (show ¬ (false=true) by decide)] at H;exact H
   clear H;have H:=H1;clear H1;obtain rfl:=Option.some.inj H;go_enter Try.func117,Try.ntmps117
   go_wp2_with (first|((with_reducible refine gate_dst (N:=2) rfl ?_);refine box_event ?hg (N:=2) ?hd (cs:=#[.slice ap ah.length aq,.slice ar ac.length au]) (t:=32) ?hr ?_;(case hd=>rfl);(case hg=>rfl);(case hr=>(go_simp;try rfl));intro ab hg bs hbox hb;have al:=qK (qT (by exact HB.out) hb);have am:=qK (hbox);have ai:=qK ((by rw [hg];exact (qZ (by exact HB.out)):w.heap.size≤ab));have ao:=ai;clear HB;have HB:=al;have aa:=am;have aA:=ai;have aj:=ao;clear al am ai ao;clear hb hbox hg)|((with_reducible refine gate_dst (N:=3) rfl ?_);refine box_event ?hg (N:=3) ?hd (cs:=#[.slice A1 l1.length c1]) (t:=22) ?hr ?_;(case hd=>rfl);(case hg=>rfl);(case hr=>(go_simp;try rfl));intro ad hg bk hbox hb;have al:=qK (qB (g:=ab) (o:=_) (by exact aa.out) hb);have am:=qK (qT (by exact HB.out) hb);have ai:=qK (hbox);have ao:=qK ((by rw [hg];exact (qZ (by exact HB.out)):w.heap.size≤ad));have aC:=ao;have ay:=qK ((by rw [hg];exact Nat.ne_of_lt (blk_lt (g:=ab) (o:=_) (by exact aa.out)):ab ≠ ad));have aD:=qK ay.out.symm;clear aa HB;have aa:=al;have HB:=am;have ae:=ai;have aE:=ao;have ak:=aC;have af:=ay;have ag:=aD;clear al am ai ao aC ay aD hb hbox hg;have bl:=af.out;have bm:=ag.out;have aU:bk.cell? ⟨ab,0,none⟩=some (.slice ap ah.length aq):=(qC aa.out 0).trans rfl;have aV:bk.cell? ⟨ab,1,none⟩=some (.slice ar ac.length au):=(qC aa.out 1).trans rfl;have aW:=qF aa.out 0;have aX:=qF aa.out 1)|((with_reducible refine gate_callee (f:=105) rfl ?_);refine goesL_ (some 8) rfl rfl Try.func105 (by kernel_rfl) rfl #[.int .i64 (ac.length:Int),.int .i64 1,.int .i64 5] rfl (by (try simp only [mT,mC,mN]);first|done|rfl|(simp only [lD,lT];rfl)) ?_;(with_reducible refine (impl_within.calls (ac.length:Int) 1 5 true _ A3.out).mono ?_);rintro e w' ⟨rfl,⟨nd,rfl⟩⟩;refine ⟨_,rfl,?_⟩)|(go_at_call 120;(with_reducible refine (areAll_impl_isQuery_1.calls _ _ ac ad A1 c1 l1 false _ ?side1 ?side2 ?side3 ?side4 ?side5 A5.out).mono ?_);(case side1=>exact (cB aw.out (by repeat (with_reducible first|exact HB.out|apply qA|apply qD|apply qO|refine qS ?_ aj.out|refine qS ?_ ak.out))));(case side2=>exact ax.out);(case side3=>exact (cB bc.out (by repeat (with_reducible first|exact HB.out|apply qA|apply qD|apply qO|refine qS ?_ aj.out|refine qS ?_ ak.out))));(case side4=>exact bd.out);(case side5=>exact (by exact ae.out));rintro e bt ⟨rfl,hb⟩;have al:=qK (qB (g:=ab) (o:=_) (by exact aa.out) hb);have am:=qK (qB (g:=ad) (o:=_) (by exact ae.out) hb);have ai:=qK (qT (by repeat (with_reducible first|exact HB.out|apply qA|apply qD|apply qO|refine qS ?_ aj.out|refine qS ?_ ak.out)) hb);clear aa ae HB;have aa:=al;have ae:=am;have HB:=ai;clear al am ai;(try clear hb)))
   go_ret
   exact ⟨by rfl,HB.out⟩
 ·replace c4:=Bool.eq_false_iff.mpr c4;subst c4;have H1:(some false)=some r:=by rw [if_neg (show ¬ (false=true) by decide)] at H;exact H
  clear H;have H:=H1;clear H1;obtain rfl:=Option.some.inj H;go_enter Try.func117,Try.ntmps117
  go_wp2_with (first|((with_reducible refine gate_dst (N:=2) rfl ?_);refine box_event ?hg (N:=2) ?hd (cs:=#[.slice ap ah.length aq,.slice ar ac.length au]) (t:=32) ?hr ?_;(case hd=>rfl);(case hg=>rfl);(case hr=>(go_simp;try rfl));intro ab hg bu hbox hb;have al:=qK (qT HB.out hb);have am:=qK (hbox);have ai:=qK ((by rw [hg];exact (qZ HB.out):w.heap.size≤ab));have ao:=ai;clear HB;have HB:=al;have aa:=am;have aA:=ai;have aj:=ao;clear al am ai ao;clear hb hbox hg)|((with_reducible refine gate_dst (N:=3) rfl ?_);refine box_event ?hg (N:=3) ?hd (cs:=#[.slice A1 l1.length c1]) (t:=22) ?hr ?_;(case hd=>rfl);(case hg=>rfl);(case hr=>(go_simp;try rfl));intro ad hg bn hbox hb;have al:=qK (qB (g:=ab) (o:=_) aa.out hb);have am:=qK (qT HB.out hb);have ai:=qK (hbox);have ao:=qK ((by rw [hg];exact (qZ HB.out):w.heap.size≤ad));have aC:=ao;have ay:=qK ((by rw [hg];exact Nat.ne_of_lt (blk_lt (g:=ab) (o:=_) aa.out):ab ≠ ad));have aD:=qK ay.out.symm;clear aa HB;have aa:=al;have HB:=am;have ae:=ai;have aE:=ao;have ak:=aC;have af:=ay;have ag:=aD;clear al am ai ao aC ay aD hb hbox hg;have bo:=af.out;have bp:=ag.out;have aY:bn.cell? ⟨ab,0,none⟩=some (.slice ap ah.length aq):=(qC aa.out 0).trans rfl;have aZ:bn.cell? ⟨ab,1,none⟩=some (.slice ar ac.length au):=(qC aa.out 1).trans rfl;have ba:=qF aa.out 0;have bb:=qF aa.out 1)|((with_reducible refine gate_callee (f:=105) rfl ?_);refine goesL_ (some 8) rfl rfl Try.func105 (by kernel_rfl) rfl #[.int .i64 (ac.length:Int),.int .i64 1,.int .i64 5] rfl (by (try simp only [mT,mC,mN]);first|done|rfl|(simp only [lD,lT];rfl)) ?_;(with_reducible refine (impl_within.calls (ac.length:Int) 1 5 false _ A3.out).mono ?_);rintro e w' ⟨rfl,⟨nd,rfl⟩⟩;refine ⟨_,rfl,?_⟩))
  go_ret
  exact ⟨by rfl,by repeat (first|(with_reducible first|exact HB.out|apply qA|apply qD|apply qO|refine qS ?_ aj.out|refine qS ?_ ak.out)|exact HB.out)⟩

/-! ### impl_areTables_1: function 162 -/
def impl_areTables_1.f (a0:Int):Option (Bool):=(impl_within.f a0 1 3).bind fun t180=>(some t180)
set_option maxHeartbeats 8000000 in
set_option maxRecDepth 100000 in
theorem impl_areTables_1.calls (a0:Int) (r:Bool) (w:World) (h:impl_areTables_1.f a0=some r) :
  Calls Try.prog 162 #[.int .i64 a0] w fun e w'=>e=.returned (.bool r)∧Drawn0 w w':=by
 have H:((impl_within.f a0 1 3).bind fun aa=>(some aa))=some r:=h;clear h;replace H:=Option.bind_eq_some_iff.mp H;obtain ⟨aa,ab,H⟩:=H;replace H:(some aa)=some r:=H;have A2:=qK ab;clear ab;obtain rfl:=Option.some.inj H;go_enter Try.func162,Try.ntmps162
 go_wp2_with (first|((with_reducible refine gate_callee (f:=105) rfl ?_);refine goesL_ (some 4) rfl rfl Try.func105 (by kernel_rfl) rfl #[.int .i64 a0,.int .i64 1,.int .i64 3] rfl (by (try simp only [mT,mC,mN]);first|done|rfl|(simp only [lD,lT];rfl)) ?_;(with_reducible refine (impl_within.calls a0 1 3 aa _ A2.out).mono ?_);rintro e w' ⟨rfl,⟨nd,rfl⟩⟩;refine ⟨_,rfl,?_⟩))
 go_ret
 exact ⟨by first|rfl|(simp;done)|(simp [*];done),by repeat (first|exact Drawn0.refl _|apply Drawn0.step)⟩

/-! ### areAll_impl_areTables_1: function 106, handed function 162 -/
def areAll_impl_areTables_1.f (l : List Int) : Option Bool := if l.all (fun d => (impl_areTables_1.f d).isSome) = true then some (l.all (fun d => (impl_areTables_1.f d).getD false)) else none
theorem areAll_impl_areTables_1.calls (A : Option Addr) (c : Nat) (l : List Int) (r : Bool) (w : World) (hr : Kd.C (Kd.int .i64) w A l.length l) (hc : l.length ≤ c) (h : areAll_impl_areTables_1.f l = some r) :
    Calls Try.prog 106 #[.slice A l.length c, .func (.func 162) #[] #[]] w fun e w' => e = .returned (.bool r) ∧ Below w.heap.size w w' := by
  unfold areAll_impl_areTables_1.f at h
  by_cases hs : l.all (fun d => (impl_areTables_1.f d).isSome) = true
  case neg => rw [if_neg hs] at h; cases h
  rw [if_pos hs] at h
  obtain rfl : l.all (fun d => (impl_areTables_1.f d).getD false) = r := Option.some.inj h
  refine areAll_Int.calls A c l 162 _ _ w (enters_of Try.func162 (by kernel_rfl) rfl) hr ?_
  intro W d v hd hW hv
  obtain ⟨r_, hr_⟩ := Option.isSome_iff_exists.1 (List.all_eq_true.1 hs d hd)
  obtain rfl : v = .int .i64 d := by simpa using (List.cons.inj hv).1
  refine (impl_areTables_1.calls (w := W) (h := hr_)).mono ?_
  rintro e w' ⟨rfl, hb⟩
  exact ⟨by show _ = Ending.returned (Value.bool ((impl_areTables_1.f d).getD false)); rw [hr_]; rfl, hb.below⟩

/-! ### impl_areTables: function 119 -/
def impl_areTables.f (l0:List Int):Option (Bool):=(impl_within.f (l0.length:Int) 1 4).bind fun t181=>(if t181=true then ((areAll_impl_areTables_1.f l0).bind fun t182=>(some t182)) else (some false))
set_option maxHeartbeats 8000000 in
set_option maxRecDepth 100000 in
theorem impl_areTables.calls (A0:Option Addr) (c0:Nat) (l0:List Int) (r:Bool) (w:World) (hr0:Kd.C (Kd.int .i64) w A0 l0.length l0) (hc0:l0.length≤c0) (h:impl_areTables.f l0=some r) :
  Calls Try.prog 119 #[.slice A0 l0.length c0] w fun e w'=>e=.returned (.bool r)∧Below w.heap.size w w':=by
 have af:=qK hr0;have ag:=qK hc0;clear hr0 hc0;have HB:=qK (Below.refl w.heap.size w);have H:((impl_within.f (l0.length:Int) 1 4).bind fun ab=>(if ab=true then ((areAll_impl_areTables_1.f l0).bind fun aa=>(some aa)) else (some false)))=some r:=h;clear h;replace H:=Option.bind_eq_some_iff.mp H;obtain ⟨ab,ac,H⟩:=H;replace H:(if ab=true then ((areAll_impl_areTables_1.f l0).bind fun aa=>(some aa)) else (some false))=some r:=H;have A2:=qK ac;clear ac;by_cases c3:ab=true
 ·subst c3;have H1:((areAll_impl_areTables_1.f l0).bind fun aa=>(some aa))=some r:=by rw [if_pos rfl] at H;exact H
  clear H;have H:=H1;clear H1;replace H:=Option.bind_eq_some_iff.mp H;obtain ⟨aa,ad,H⟩:=H;replace H:(some aa)=some r:=H;have A4:=qK ad;clear ad;obtain rfl:=Option.some.inj H;go_enter Try.func119,Try.ntmps119
  go_wp2_with (first|((with_reducible refine gate_callee (f:=105) rfl ?_);refine goesL_ (some 5) rfl rfl Try.func105 (by kernel_rfl) rfl #[.int .i64 (l0.length:Int),.int .i64 1,.int .i64 4] rfl (by (try simp only [mT,mC,mN]);first|done|rfl|(simp only [lD,lT];rfl)) ?_;(with_reducible refine (impl_within.calls (l0.length:Int) 1 4 true _ A2.out).mono ?_);rintro e w' ⟨rfl,⟨nd,rfl⟩⟩;refine ⟨_,rfl,?_⟩)|(go_at_call 106;(with_reducible refine (areAll_impl_areTables_1.calls _ _ l0  aa _ ?side1 ?side2 A4.out).mono ?_);(case side1=>exact af.out);(case side2=>exact ag.out);rintro e w5 ⟨rfl,hb⟩;have ae:=qK (qT (by repeat (with_reducible first|exact HB.out|apply qA|apply qD|apply qO)) hb);clear HB;have HB:=ae;clear ae;(try clear hb)))
  go_ret
  exact ⟨by rfl,HB.out⟩
 ·replace c3:=Bool.eq_false_iff.mpr c3;subst c3;have H1:(some false)=some r:=by rw [if_neg (show ¬ (false=true) by decide)] at H;exact H
  clear H;have H:=H1;clear H1;obtain rfl:=Option.some.inj H;go_enter Try.func119,Try.ntmps119
  go_wp2_with (first|((with_reducible refine gate_callee (f:=105) rfl ?_);refine goesL_ (some 5) rfl rfl Try.func105 (by kernel_rfl) rfl #[.int .i64 (l0.length:Int),.int .i64 1,.int .i64 4] rfl (by (try simp only [mT,mC,mN]);first|done|rfl|(simp only [lD,lT];rfl)) ?_;(with_reducible refine (impl_within.calls (l0.length:Int) 1 4 false _ A2.out).mono ?_);rintro e w' ⟨rfl,⟨nd,rfl⟩⟩;refine ⟨_,rfl,?_⟩))
  go_ret
  exact ⟨by rfl,by repeat (first|(with_reducible first|exact HB.out|apply qA|apply qD|apply qO)|exact HB.out)⟩

/-! ### impl_GoodQuery: function 57 -/
def impl_GoodQuery.f (k:Nat) (l0_0:List Int) (l0_1:List (S97)) (l1:List Int):Option (Bool):=(impl_areTables.f l1).bind fun t184=>(if t184=true then ((impl_isQuery.f k l0_0 l0_1 l1).bind fun t185=>(some t185)) else (some false))
theorem impl_GoodQuery.mono : ∀ a0 a1 a2 k,LeO (impl_GoodQuery.f k a0 a1 a2) (impl_GoodQuery.f (k + 1) a0 a1 a2):=by
 intro a0 a1 a2 k;unfold impl_GoodQuery.f
 repeat' first
   | (with_reducible exact impl_isQuery.mono _ _ _ _)
   | (with_reducible exact LeO.refl _)
   | (with_reducible exact LeO.none _)
   | (with_reducible refine LeO.ite ?_ ?_)
   | (with_reducible refine LeO.bind ?_ (fun _=>?_))
   | exact impl_isQuery.mono _ _ _ _
   | exact LeO.none _
   | refine LeO.ite ?_ ?_
   | refine LeO.bind ?_ (fun _=>?_)
set_option maxHeartbeats 8000000 in
set_option maxRecDepth 100000 in
theorem impl_GoodQuery.calls (k:Nat) (ah:Option Addr) (ai:Nat) (ac:List Int) (aj:Option Addr) (ak:Nat) (ad:List (S97)) (A1:Option Addr) (c1:Nat) (l1:List Int) (r:Bool) (w:World) (hr0_0:Kd.C (Kd.int .i64) w ah ac.length ac) (hc0_0:ac.length≤ai) (hr0_1:Kd.C k97 w aj ad.length ad) (hc0_1:ad.length≤ak) (hr1:Kd.C (Kd.int .i64) w A1 l1.length l1) (hc1:l1.length≤c1) (h:impl_GoodQuery.f k ac ad l1=some r) :
  Calls Try.prog 57 #[.agg #[.slice ah ac.length ai,.slice aj ad.length ak],.slice A1 l1.length c1] w fun e w'=>e=.returned (.bool r)∧Below w.heap.size w w':=by
 have aG:=Try.underlying32;have an:=qK hr0_0;have ao:=qK hc0_0;clear hr0_0 hc0_0;have ap:=qK hr0_1;have aq:=qK hc0_1;clear hr0_1 hc0_1;have aw:=qK hr1;have ax:=qK hc1;clear hr1 hc1;have HB:=qK (Below.refl w.heap.size w);have H:((impl_areTables.f l1).bind fun al=>(if al=true then ((impl_isQuery.f k ac ad l1).bind fun ae=>(some ae)) else (some false)))=some r:=h;clear h;replace H:=Option.bind_eq_some_iff.mp H;obtain ⟨al,aD,H⟩:=H;replace H:(if al=true then ((impl_isQuery.f k ac ad l1).bind fun ae=>(some ae)) else (some false))=some r:=H;have A3:=qK aD;clear aD;by_cases c4:al=true
 ·subst c4;have H1:((impl_isQuery.f k ac ad l1).bind fun ae=>(some ae))=some r:=by rw [if_pos rfl] at H;exact H
  clear H;have H:=H1;clear H1;replace H:=Option.bind_eq_some_iff.mp H;obtain ⟨ae,aE,H⟩:=H;replace H:(some ae)=some r:=H;have A5:=qK aE;clear aE;obtain rfl:=Option.some.inj H;go_enter Try.func57,Try.ntmps57
  go_wp2_with (first|((with_reducible refine gate_dst (N:=2) rfl ?_);refine box_event ?hg (N:=2) ?hd (cs:=#[.slice ah ac.length ai,.slice aj ad.length ak]) (t:=32) ?hr ?_;(case hd=>rfl);(case hg=>rfl);(case hr=>(go_simp;try rfl));intro ab hg w6 hbox hb;have af:=qK (qT HB.out hb);have ag:=qK (hbox);have am:=qK ((by rw [hg];exact (qZ HB.out):w.heap.size≤ab));have ar:=am;clear HB;have HB:=af;have aa:=ag;have au:=am;have av:=ar;clear af ag am ar;clear hb hbox hg)|((with_reducible refine gate_callee (f:=119) rfl ?_);refine goesL_ (some 6) rfl rfl Try.func119 (by kernel_rfl) rfl #[.slice A1 l1.length c1] rfl (by (try simp only [mT,mC,mN]);first|done|rfl|(simp only [lD,lT];rfl)) ?_;(with_reducible refine (impl_areTables.calls _ _ l1 true _ ?side1 ?side2 A3.out).mono ?_);(case side1=>exact (cB aw.out HB.out));(case side2=>exact ax.out);rintro e w7 ⟨rfl,hb⟩;refine ⟨_,rfl,?_⟩;have af:=qK (qB (g:=ab) (o:=_) aa.out hb);have ag:=qK (qT HB.out hb);clear aa HB;have aa:=af;have HB:=ag;clear af ag;(try clear hb);have ay:w7.cell? ⟨ab,0,none⟩=some (.slice ah ac.length ai):=(qC aa.out 0).trans rfl;have az:w7.cell? ⟨ab,1,none⟩=some (.slice aj ad.length ak):=(qC aa.out 1).trans rfl;have aA:=qF aa.out 0;have aC:=qF aa.out 1)|(go_at_call 117;(with_reducible refine (impl_isQuery.calls k _ _ ac _ _ ad _ _ l1 ae _ ?side1 ?side2 ?side3 ?side4 ?side5 ?side6 A5.out).mono ?_);(case side1=>exact (cB an.out HB.out));(case side2=>exact ao.out);(case side3=>exact (cB ap.out HB.out));(case side4=>exact aq.out);(case side5=>exact (cB aw.out HB.out));(case side6=>exact ax.out);rintro e w9 ⟨rfl,hb⟩;have af:=qK (qB (g:=ab) (o:=_) aa.out hb);have ag:=qK (qT HB.out hb);clear aa HB;have aa:=af;have HB:=ag;clear af ag;(try clear hb)))
  go_ret
  exact ⟨by rfl,HB.out⟩
 ·replace c4:=Bool.eq_false_iff.mpr c4;subst c4;have H1:(some false)=some r:=by rw [if_neg (show ¬ (false=true) by decide)] at H;exact H
  clear H;have H:=H1;clear H1;obtain rfl:=Option.some.inj H;go_enter Try.func57,Try.ntmps57
  go_wp2_with (first|((with_reducible refine gate_dst (N:=2) rfl ?_);refine box_event ?hg (N:=2) ?hd (cs:=#[.slice ah ac.length ai,.slice aj ad.length ak]) (t:=32) ?hr ?_;(case hd=>rfl);(case hg=>rfl);(case hr=>(go_simp;try rfl));intro ab hg aH hbox hb;have af:=qK (qT HB.out hb);have ag:=qK (hbox);have am:=qK ((by rw [hg];exact (qZ HB.out):w.heap.size≤ab));have ar:=am;clear HB;have HB:=af;have aa:=ag;have au:=am;have av:=ar;clear af ag am ar;clear hb hbox hg)|((with_reducible refine gate_callee (f:=119) rfl ?_);refine goesL_ (some 6) rfl rfl Try.func119 (by kernel_rfl) rfl #[.slice A1 l1.length c1] rfl (by (try simp only [mT,mC,mN]);first|done|rfl|(simp only [lD,lT];rfl)) ?_;(with_reducible refine (impl_areTables.calls _ _ l1 false _ ?side1 ?side2 A3.out).mono ?_);(case side1=>exact (cB aw.out HB.out));(case side2=>exact ax.out);rintro e aI ⟨rfl,hb⟩;refine ⟨_,rfl,?_⟩;have af:=qK (qB (g:=ab) (o:=_) aa.out hb);have ag:=qK (qT HB.out hb);clear aa HB;have aa:=af;have HB:=ag;clear af ag;(try clear hb)))
  go_ret
  exact ⟨by rfl,HB.out⟩

/-! ### slices_Equal_int_int: function 185 -/
def slices_Equal_int_int.l0 : Nat→List Int→List Int→Int→Int→Option (Bool)
 | 0,_,_,_,_=>none
 | k + 1,x0,x1,x12,x13=>if x13 < x12 then (if 0≤x13 then (if x13 < (x0.length:Int) then (if x13 < (x1.length:Int) then (if (rd x0 x13)=(rd x1 x13) then (slices_Equal_int_int.l0 k x0 x1 x12 (wrap64 (x13 + 1))) else (some false)) else (none)) else (none)) else (none)) else (some true)
def slices_Equal_int_int.f (k:Nat) (l0:List Int) (l1:List Int):Option (Bool):=if (l0.length:Int)=(l1.length:Int) then (slices_Equal_int_int.l0 k l0 l1 (l0.length:Int) 0) else (some false)
theorem slices_Equal_int_int.mono_l : ∀ k,(∀ y0 y1 y2 y3,LeO (slices_Equal_int_int.l0 k y0 y1 y2 y3) (slices_Equal_int_int.l0 (k + 1) y0 y1 y2 y3))
 | 0=>fun _ _ _ _ r h=>by simp [slices_Equal_int_int.l0] at h
 | k + 1=>by
  have aa:=slices_Equal_int_int.mono_l k
  ·intro y0 y1 y2 y3;unfold slices_Equal_int_int.l0
   repeat' first
   | (with_reducible exact aa _ _ _ _)
   | (with_reducible exact LeO.refl _)
   | (with_reducible exact LeO.none _)
   | (with_reducible refine LeO.ite ?_ ?_)
   | (with_reducible refine LeO.bind ?_ (fun _=>?_))
   | exact aa _ _ _ _
   | exact LeO.none _
   | refine LeO.ite ?_ ?_
   | refine LeO.bind ?_ (fun _=>?_)
theorem slices_Equal_int_int.mono : ∀ a0 a1 k,LeO (slices_Equal_int_int.f k a0 a1) (slices_Equal_int_int.f (k + 1) a0 a1):=by
 intro a0 a1 k;have aa:=slices_Equal_int_int.mono_l k;unfold slices_Equal_int_int.f
 repeat' first
   | (with_reducible exact aa _ _ _ _)
   | (with_reducible exact LeO.refl _)
   | (with_reducible exact LeO.none _)
   | (with_reducible refine LeO.ite ?_ ?_)
   | (with_reducible refine LeO.bind ?_ (fun _=>?_))
   | exact aa _ _ _ _
   | exact LeO.none _
   | refine LeO.ite ?_ ?_
   | refine LeO.bind ?_ (fun _=>?_)
set_option maxHeartbeats 8000000 in
set_option maxRecDepth 100000 in
theorem slices_Equal_int_int.calls (k:Nat) (A0:Option Addr) (c0:Nat) (l0:List Int) (A1:Option Addr) (c1:Nat) (l1:List Int) (r:Bool) (w:World) (hr0:Kd.C (Kd.int .i64) w A0 l0.length l0) (hc0:l0.length≤c0) (hr1:Kd.C (Kd.int .i64) w A1 l1.length l1) (hc1:l1.length≤c1) (h:slices_Equal_int_int.f k l0 l1=some r) :
  Calls Try.prog 185 #[.slice A0 l0.length c0,.slice A1 l1.length c1] w fun e w'=>e=.returned (.bool r)∧Drawn0 w w':=by
 have ar:=qK hr0;have aA:=qK hc0;clear hr0 hc0;have au:=qK hr1;have aC:=qK hc1;clear hr1 hc1;have H:(if (l0.length:Int)=(l1.length:Int) then (slices_Equal_int_int.l0 k l0 l1 (l0.length:Int) 0) else (some false))=some r:=h;clear h;by_cases c3:(l0.length:Int)=(l1.length:Int)
 ·rw [if_pos c3] at H;have aj:((l0.length:Int) == (l1.length:Int))=true:=beq_iff_eq.mpr c3;have ak:((l0.length:Int) != (l1.length:Int))=false:=bne_eq_false_iff_eq.mpr c3;have al:(l0.length == l1.length)=true:=by first|simpa using c3|(simp at c3 ⊢;omega)
  clear c3;have H':=qK H;clear H;go_enter Try.func185,Try.ntmps185
  go_wp2
  repeat (go_quiet (fail);try go_wp2)
  go_loopg [13] k (fun kq aw w'=>∃ (aa:Int),aw=.int .i64 aa∧Aside0 (slices_Equal_int_int.l0 kq l0 l1 (l0.length:Int) aa=some r)∧Aside0 (kq≤k)∧Drawn0 w w')
  case atStart=>exact ⟨(0),(by rfl),H',⟨Nat.le_refl _⟩,by repeat (first|exact Drawn0.refl _|apply Drawn0.step)⟩
  case round =>
   clear H';try clear c1
   try clear p2
   try clear c3
   try clear aj
   try clear ak
   try clear al
   obtain ⟨aa,rfl,HA,av,⟨m1,rfl⟩⟩:=hrel;cases gk with
   | zero=>exact absurd HA.out (by simp [slices_Equal_int_int.l0])
   | succ k1 =>
    have H:=HA.out;clear HA;simp only [slices_Equal_int_int.l0] at H;by_cases c4:aa < (l0.length:Int)
    ·rw [if_pos c4] at H;have ao:decide (aa < (l0.length:Int))=true:=decide_eq_true c4;clear c4;by_cases c5:0≤aa
     ·rw [if_pos c5] at H;have ax:decide (0≤aa)=true:=decide_eq_true c5;clear c5;by_cases c6:aa < (l0.length:Int)
      ·rw [if_pos c6] at H;have ay:decide (aa < (l0.length:Int))=true:=decide_eq_true c6;clear c6;by_cases c7:aa < (l1.length:Int)
       ·rw [if_pos c7] at H;have az:decide (aa < (l1.length:Int))=true:=decide_eq_true c7;clear c7;by_cases c8:(rd l0 aa)=(rd l1 aa)
        ·rw [if_pos c8] at H;have ap:((rd l0 aa) == (rd l1 aa))=true:=beq_iff_eq.mpr c8;have aq:((rd l0 aa) != (rd l1 aa))=false:=bne_eq_false_iff_eq.mpr c8;clear c8;have H':=qK H;clear H;have ab:0≤(aa:Int):=of_decide_eq_true (by assumption);have ac:aa < (l0.length:Int):=of_decide_eq_true (by assumption);obtain ⟨am,ah,af⟩:=Kd.at_int ar.out aa ab ac;cases ah
         replace ab:=eq_true ab;replace ac:=eq_true ac;have ad:0≤(aa:Int):=of_decide_eq_true (by assumption);have ae:aa < (l1.length:Int):=of_decide_eq_true (by assumption);obtain ⟨an,ai,ag⟩:=Kd.at_int au.out aa ad ae;cases ai
         replace ad:=eq_true ad;replace ae:=eq_true ae;go_wp2
         repeat (go_quiet (fail);try go_wp2)
         go_roundg k1
         case measure=>have:=av.out;omega
         case rel=>exact ⟨(wrap64 (aa + 1)),(by rfl),H',⟨by have:=av.out;omega⟩,by repeat (first|exact Drawn0.refl _|apply Drawn0.step)⟩
        ·rw [if_neg c8] at H;have ap:((rd l0 aa) == (rd l1 aa))=false:=beq_eq_false_iff_ne.mpr c8;have aq:((rd l0 aa) != (rd l1 aa))=true:=bne_iff_ne.mpr c8;obtain rfl:=Option.some.inj H;have ab:0≤(aa:Int):=of_decide_eq_true (by assumption);have ac:aa < (l0.length:Int):=of_decide_eq_true (by assumption);obtain ⟨am,ah,af⟩:=Kd.at_int ar.out aa ab ac;cases ah
         replace ab:=eq_true ab;replace ac:=eq_true ac;have ad:0≤(aa:Int):=of_decide_eq_true (by assumption);have ae:aa < (l1.length:Int):=of_decide_eq_true (by assumption);obtain ⟨an,ai,ag⟩:=Kd.at_int au.out aa ad ae;cases ai
         replace ad:=eq_true ad;replace ae:=eq_true ae;go_wp2
         repeat (go_quiet (fail);try go_wp2)
         go_ret
         exact ⟨by first|rfl|(simp;done)|(simp [*];done),by repeat (first|exact Drawn0.refl _|apply Drawn0.step)⟩
       ·rw [if_neg c7] at H;exact absurd H (by simp)
      ·rw [if_neg c6] at H;exact absurd H (by simp)
     ·rw [if_neg c5] at H;exact absurd H (by simp)
    ·rw [if_neg c4] at H;have ao:decide (aa < (l0.length:Int))=false:=decide_eq_false c4;clear c4;obtain rfl:=Option.some.inj H;go_wp2
     repeat (go_quiet (fail);try go_wp2)
     go_ret
     exact ⟨by first|rfl|(simp;done)|(simp [*];done),by repeat (first|exact Drawn0.refl _|apply Drawn0.step)⟩
 ·rw [if_neg c3] at H;have aj:((l0.length:Int) == (l1.length:Int))=false:=beq_eq_false_iff_ne.mpr c3;have ak:((l0.length:Int) != (l1.length:Int))=true:=bne_iff_ne.mpr c3;have al:(l0.length == l1.length)=false:=by first|simpa using c3|(simp at c3 ⊢;omega)
  obtain rfl:=Option.some.inj H;go_enter Try.func185,Try.ntmps185
  go_wp2
  repeat (go_quiet (fail);try go_wp2)
  go_ret
  exact ⟨by first|rfl|(simp;done)|(simp [*];done),by repeat (first|exact Drawn0.refl _|apply Drawn0.step)⟩

/-! ### impl_mapped: function 186 -/
def impl_mapped.l0 : Nat→List Int→List Int→List Int→Int→Int→Option (List Int)
 | 0,_,_,_,_,_=>none
 | k + 1,x0,x5,x8,x9,x10=>if x10 < x9 then (if 0≤x10 then (if x10 < (x8.length:Int) then (if 0≤(rd x8 x10) then (if (rd x8 x10) < (x0.length:Int) then (if x5.length < 17592186044416 then (impl_mapped.l0 k x0 (x5 ++ [rd x0 (rd x8 x10)]) x8 x9 (wrap64 (x10 + 1))) else (none)) else (none)) else (none)) else (none)) else (none)) else (some x5)
def impl_mapped.f (k:Nat) (l0:List Int) (l1:List Int):Option (List Int):=impl_mapped.l0 k l0 ([]:List Int) l1 (l1.length:Int) 0
theorem impl_mapped.mono_l : ∀ k,(∀ y0 y1 y2 y3 y4,LeO (impl_mapped.l0 k y0 y1 y2 y3 y4) (impl_mapped.l0 (k + 1) y0 y1 y2 y3 y4))
 | 0=>fun _ _ _ _ _ r h=>by simp [impl_mapped.l0] at h
 | k + 1=>by
  have aa:=impl_mapped.mono_l k
  ·intro y0 y1 y2 y3 y4;unfold impl_mapped.l0
   repeat' first
   | (with_reducible exact aa _ _ _ _ _)
   | (with_reducible exact LeO.refl _)
   | (with_reducible exact LeO.none _)
   | (with_reducible refine LeO.ite ?_ ?_)
   | (with_reducible refine LeO.bind ?_ (fun _=>?_))
   | exact aa _ _ _ _ _
   | exact LeO.none _
   | refine LeO.ite ?_ ?_
   | refine LeO.bind ?_ (fun _=>?_)
theorem impl_mapped.mono : ∀ a0 a1 k,LeO (impl_mapped.f k a0 a1) (impl_mapped.f (k + 1) a0 a1):=by
 intro a0 a1 k;have aa:=impl_mapped.mono_l k;unfold impl_mapped.f
 repeat' first
   | (with_reducible exact aa _ _ _ _ _)
   | (with_reducible exact LeO.refl _)
   | (with_reducible exact LeO.none _)
   | (with_reducible refine LeO.ite ?_ ?_)
   | (with_reducible refine LeO.bind ?_ (fun _=>?_))
   | exact aa _ _ _ _ _
   | exact LeO.none _
   | refine LeO.ite ?_ ?_
   | refine LeO.bind ?_ (fun _=>?_)
set_option maxHeartbeats 8000000 in
set_option maxRecDepth 100000 in
theorem impl_mapped.calls (k:Nat) (A0:Option Addr) (c0:Nat) (l0:List Int) (A1:Option Addr) (c1:Nat) (l1:List Int) (r:List Int) (w:World) (hr0:Kd.C (Kd.int .i64) w A0 l0.length l0) (hc0:l0.length≤c0) (hr1:Kd.C (Kd.int .i64) w A1 l1.length l1) (hc1:l1.length≤c1) (h:impl_mapped.f k l0 l1=some r) :
  Calls Try.prog 186 #[.slice A0 l0.length c0,.slice A1 l1.length c1] w fun e w'=>∃ au:Value,e=.returned (au)∧Kd.R (Kd.int .i64) 3 w' w.heap.size (fun _=>True) au r∧Below w.heap.size w w':=by
 have aA:=qK hr0;have aK:=qK hc0;clear hr0 hc0;have aC:=qK hr1;have aM:=qK hc1;clear hr1 hc1;have HB:=qK (Below.refl w.heap.size w);have H:(impl_mapped.l0 k l0 ([]:List Int) l1 (l1.length:Int) 0)=some r:=h;clear h;have H':=qK H;clear H;go_enter Try.func186,Try.ntmps186
 go_wp2
 go_loopg [5,10] k (fun kq v5 aD w'=>∃ (ae:List Int) (aa:Int),aD=.int .i64 aa∧Aside0 (impl_mapped.l0 kq l0 ae l1 (l1.length:Int) aa=some r)∧Aside0 (kq≤k)∧Aside0 (Kd.R (Kd.int .i64) 3 w' w.heap.size (fun _=>True) v5 ae)∧Aside0 (Below w.heap.size w w'))
 case atStart=>exact ⟨(([]:List Int)),(0),(by rfl),H',⟨Nat.le_refl _⟩,⟨by first|exact Kd.R_nil _ _ _ _ _|exact Kd.N_nil _ _ _ _ _|exact Kd.V_nil _ _ _ _ _|exact Kd.Q_nil _ _ _ _ _|exact Kd.S_nil _ _ _ _ _⟩,⟨HB.out⟩⟩
 case round =>
  clear H';try clear c1
  try clear p2
  obtain ⟨ae,aa,rfl,HA,av,af,HB⟩:=hrel;cases gk with
  | zero=>exact absurd HA.out (by simp [impl_mapped.l0])
  | succ k1 =>
   have H:=HA.out;clear HA;simp only [impl_mapped.l0] at H;by_cases c3:aa < (l1.length:Int)
   ·rw [if_pos c3] at H;have an:decide (aa < (l1.length:Int))=true:=decide_eq_true c3;clear c3;by_cases c4:0≤aa
    ·rw [if_pos c4] at H;have aE:decide (0≤aa)=true:=decide_eq_true c4;clear c4;by_cases c5:aa < (l1.length:Int)
     ·rw [if_pos c5] at H;have aG:decide (aa < (l1.length:Int))=true:=decide_eq_true c5;clear c5;by_cases c6:0≤(rd l1 aa)
      ·rw [if_pos c6] at H;have aH:decide (0≤(rd l1 aa))=true:=decide_eq_true c6;clear c6;by_cases c7:(rd l1 aa) < (l0.length:Int)
       ·rw [if_pos c7] at H;have aI:decide ((rd l1 aa) < (l0.length:Int))=true:=decide_eq_true c7;clear c7;by_cases c8:ae.length < 17592186044416
        ·rw [if_pos c8] at H;have ao:=qK c8;clear c8;obtain ⟨ak,ad⟩:∃ y_:List Int,y_=(ae ++ [rd l0 (rd l1 aa)]):=⟨_,rfl⟩;replace H:(impl_mapped.l0 k1 l0 ak l1 (l1.length:Int) (wrap64 (aa + 1)))=some r:=by first|(rw [ad];with_reducible exact H)|(have ap:=(Option.bind_some _ _).symm.trans H;rw [ad];with_reducible exact ap)|(have ap:=(Option.bind_some _ _).symm.trans H;with_reducible exact ap)|with_reducible exact H|(rw [ad];exact H)|exact H
         have al:=qK ad;clear ad;have H':=qK H;clear H;have ag:0≤(aa:Int):=of_decide_eq_true (by assumption);have ah:aa < (l1.length:Int):=of_decide_eq_true (by assumption);obtain ⟨aw,aq,ab⟩:=Kd.at_int aC.out aa ag ah;cases aq
         replace ab:=(HB.out.cell (World.block_lt_of_cell? w _ ab)).trans ab;replace ag:=eq_true ag;replace ah:=eq_true ah;have ai:0≤((rd l1 aa):Int):=of_decide_eq_true (by assumption);have aj:(rd l1 aa) < (l0.length:Int):=of_decide_eq_true (by assumption);obtain ⟨ax,ar,ac⟩:=Kd.at_int aA.out (rd l1 aa) ai aj;cases ar
         replace ac:=(HB.out.cell (World.block_lt_of_cell? w _ ac)).trans ac;replace ai:=eq_true ai;replace aj:=eq_true aj;go_wp2_with (first|((with_reducible refine gate_builtin (b:=.append) (xs:=#[.tmp 14,.tmp 19]) rfl ?_);at_builtin;refine Kd.R_append (Kd.int .i64) (w0:=w) w.heap.size rfl (.tmp 14) (.tmp 19) 22 3 (.int .i64 0) 8 rfl Try.underlying22 info3 rfl (by decide) (by omega) u5 ae (rd l0 (rd l1 aa)) [.int .i64 (rd l0 (rd l1 aa))] (fun _=>True) (fun _=>False) rfl rfl ?aP (fun _ hk=>hk.elim) ?aF ?aO ?aB ?aS ?aL ?_;(case aP=>exact rfl);(case aB=>exact HB.out);(case aF=>exact (fun _ _=>trivial));(case aO=>exact af.out);(case aS=>exact (qZ HB.out));(case aL=>have:=ao.out;omega);intro aJ w9 ho hb hg hat;rw [← al.out] at ho;have ay:=qK (hb);have az:=qK (ho);clear HB af;have HB:=ay;have am:=az;clear ay az;clear ho hb hg hat))
         go_roundg k1
         case measure=>have:=av.out;omega
         case rel=>exact ⟨(ak),(wrap64 (aa + 1)),(by rfl),H',⟨by have:=av.out;omega⟩,⟨am.out⟩,⟨HB.out⟩⟩
        ·rw [if_neg c8] at H;exact absurd H (by simp)
       ·rw [if_neg c7] at H;exact absurd H (by simp)
      ·rw [if_neg c6] at H;exact absurd H (by simp)
     ·rw [if_neg c5] at H;exact absurd H (by simp)
    ·rw [if_neg c4] at H;exact absurd H (by simp)
   ·rw [if_neg c3] at H;have an:decide (aa < (l1.length:Int))=false:=decide_eq_false c3;clear c3;obtain rfl:=Option.some.inj H;go_wp2
    go_ret
    exact ⟨_,by rfl,af.out,HB.out⟩

/-! ### impl_isMap_1_1: function 188 -/
def impl_isMap_1_1.f (k:Nat) (a0_0:Int) (l0_1:List Int) (a90_0:Int) (l90_1:List Int) (l91:List Int):Option (Bool):=if a0_0=a90_0 then ((impl_mapped.f k l91 l90_1).bind fun t196=>((slices_Equal_int_int.f k t196 l0_1).bind fun t199=>(some t199))) else (some false)
theorem impl_isMap_1_1.mono : ∀ a0 a1 a2 a3 a4 k,LeO (impl_isMap_1_1.f k a0 a1 a2 a3 a4) (impl_isMap_1_1.f (k + 1) a0 a1 a2 a3 a4):=by
 intro a0 a1 a2 a3 a4 k;unfold impl_isMap_1_1.f
 repeat' first
   | (with_reducible exact impl_mapped.mono _ _ _)
   | (with_reducible exact slices_Equal_int_int.mono _ _ _)
   | (with_reducible exact LeO.refl _)
   | (with_reducible exact LeO.none _)
   | (with_reducible refine LeO.ite ?_ ?_)
   | (with_reducible refine LeO.bind ?_ (fun _=>?_))
   | exact impl_mapped.mono _ _ _
   | exact slices_Equal_int_int.mono _ _ _
   | exact LeO.none _
   | refine LeO.ite ?_ ?_
   | refine LeO.bind ?_ (fun _=>?_)
def impl_isMap_1_1.T1 : Bool × List (List Nat × List Nat):=(true,[([],[]),([0],[0]),([],[]),([2],[2]),([1,3],[1,3]),([4],[4]),([5],[5]),([5],[5]),([7,5],[5,7]),([6,8,5,5],[5,6,8]),([5],[5]),([10,5],[5,10]),([9,11,9,5],[5,9,11]),([5,12],[5,12]),([13,12,0,1,2,3,4,5,6,7,8,9,10,11,12,13],[13])])
def impl_isMap_1_1.B1 : List Nat:=[0,1,0,4,15,31,63,63,191,511,63,1087,4095,8191,16383]
theorem impl_isMap_1_1.tab1 : rtab .any (opsOf Try.f188 1)=impl_isMap_1_1.T1:=by kernel_rfl
theorem impl_isMap_1_1.bits1 : waitsOk impl_isMap_1_1.T1.2 impl_isMap_1_1.B1=true:=by kernel_rfl
set_option maxHeartbeats 8000000 in
set_option maxRecDepth 100000 in
theorem impl_isMap_1_1.calls (k:Nat) (ah:Int) (ak:Option Addr) (al:Nat) (ag:List Int) (B0:Nat) (ae:Int) (ai:Option Addr) (aj:Nat) (af:List Int) (B1:Nat) (aR:Option Addr) (aT:Nat) (aA:List Int) (r:Bool) (w:World) (hr0_1:Kd.C (Kd.int .i64) w ak ag.length ag) (hc0_1:ag.length≤al) (hr90_1:Kd.C (Kd.int .i64) w ai af.length af) (hc90_1:af.length≤aj) (hr91:Kd.C (Kd.int .i64) w aR aA.length aA) (hc91:aA.length≤aT) (hq0:w.heap[B0]?=some (.cells #[.int .i64 ae,.slice ai af.length aj] 97 (0,0))) (hq1:w.heap[B1]?=some (.cells #[.slice aR aA.length aT] 22 (0,0))) (h:impl_isMap_1_1.f k ah ag ae af aA=some r) :
  Calls Try.prog 188 #[.agg #[.int .i64 ah,.slice ak ag.length al],.pointer (some ⟨B0,0,none⟩),.pointer (some ⟨B1,0,none⟩)] w fun e w'=>e=.returned (.bool r)∧Below w.heap.size w w':=by
 have ba:=Try.underlying97;have aI:=qK hr0_1;have aJ:=qK hc0_1;clear hr0_1 hc0_1;have aD:=qK hr90_1;have aE:=qK hc90_1;clear hr90_1 hc90_1;have aa:=qK hq0;clear hq0;have aU:=qK hr91;have aV:=qK hc91;clear hr91 hc91;have ab:=qK hq1;clear hq1;have HB:=qK (Below.refl w.heap.size w);have H:(if ah=ae then ((impl_mapped.f k aA af).bind fun aq=>((slices_Equal_int_int.f k aq ag).bind fun ar=>(some ar))) else (some false))=some r:=h;clear h;by_cases c2:ah=ae
 ·rw [if_pos c2] at H;have aW:(ah == ae)=true:=beq_iff_eq.mpr c2;have aX:(ah != ae)=false:=bne_eq_false_iff_eq.mpr c2;clear c2;replace H:=Option.bind_eq_some_iff.mp H;obtain ⟨aq,aY,H⟩:=H;replace H:((slices_Equal_int_int.f k aq ag).bind fun ar=>(some ar))=some r:=H;have A3:=qK aY;clear aY;replace H:=Option.bind_eq_some_iff.mp H;obtain ⟨ar,aZ,H⟩:=H;replace H:(some ar)=some r:=H;have A4:=qK aZ;clear aZ;obtain rfl:=Option.some.inj H;go_enter Try.func188,Try.ntmps188
  try go_wp2_with (first|((with_reducible refine gate_dst (N:=3) rfl ?_);refine box_event ?hg (N:=3) ?hd (cs:=#[.int .i64 ah,.slice ak ag.length al]) (t:=97) ?hr ?_;(case hd=>rfl);(case hg=>rfl);(case hr=>(go_simp;try rfl));intro ad hg w5 hbox hb;have am:=qK (qB (g:=B0) (o:=_) aa.out hb);have an:=qK (qB (g:=B1) (o:=_) ab.out hb);have ao:=qK (qT HB.out hb);have ap:=qK (hbox);have az:=qK ((by rw [hg];exact (qZ HB.out):w.heap.size≤ad));have aK:=az;have aG:=qK ((by rw [hg];exact Nat.ne_of_lt (blk_lt (g:=B0) (o:=_) aa.out):B0 ≠ ad));have aM:=qK aG.out.symm;have aH:=qK ((by rw [hg];exact Nat.ne_of_lt (blk_lt (g:=B1) (o:=_) ab.out):B1 ≠ ad));have aN:=qK aH.out.symm;clear aa ab HB;have aa:=am;have ab:=an;have HB:=ao;have ac:=ap;have aQ:=az;have aC:=aK;have au:=aG;have av:=aM;have aw:=aH;have ax:=aN;clear am an ao ap az aK aG aM aH aN;clear hb hbox hg))
  have am:=qK (qW aa.out);have an:=qK (qW ab.out);have ao:=qK (qW ac.out);have ap:=qK (qO HB.out);clear aa ab ac HB;have aa:=am;have ab:=an;have ac:=ao;have HB:=ap;clear am an ao ap;refine start_ (n:=15) (S:=fun w'=>w'.cell? ⟨ad,0,none⟩=some (.int .i64 ah)∧w'.cell? ⟨ad,1,none⟩=some (.slice ak ag.length al)∧w'.cell? ⟨B0,0,none⟩=some (.int .i64 ae)∧w'.cell? ⟨B0,1,none⟩=some (.slice ai af.length aj)∧w'.cell? ⟨B1,0,none⟩=some (.slice aR aA.length aT)) (ds:=[]) #[Z,Z,Z,Z,Z,Z,Z,Z,Z,Z,Z,Z,Z,Z,Z] (by kernel_rfl) rfl rfl ⟨(qC ac.out 0).trans rfl,(qC ac.out 1).trans rfl,(qC aa.out 0).trans rfl,(qC aa.out 1).trans rfl,(qC ab.out 0).trans rfl⟩ (fun hHeld=>?_);refine with_tabW impl_isMap_1_1.tab1 impl_isMap_1_1.bits1 (fun HT_ HW_=>?_);generalize w5.drew=w6 at aa ab ac HB hHeld ⊢
  refine pure_ (i:=0) (N:=some 5) (v:=?_) (a':=?_) #[Y,Z,Z,Z,Z,Z,Z,Z,Z,Z,Z,Z,Z,Z,Z] rfl rfl (any_of HT_.out (by kernel_rfl)) (fun _ _ _ h=>h) (Or.inl ⟨by rfl,?_⟩) ?_ ?_;rotate_left
  ·intro w';go_simp;with_reducible rfl
  rotate_left
  ·simp only [Act.put,sIb,sZ,sS,i64_w,i32_w];rfl
  refine pure_ (i:=2) (N:=some 7) (v:=?_) (a':=?_) #[Y,Z,Y,Z,Z,Z,Z,Z,Z,Z,Z,Z,Z,Z,Z] rfl rfl (any_of HT_.out (by kernel_rfl)) (fun _ _ _ h=>h) (Or.inl ⟨by rfl,?_⟩) ?_ ?_;rotate_left
  ·intro w';go_simp;with_reducible rfl
  rotate_left
  ·simp only [Act.put,sIb,sZ,sS,i64_w,i32_w];rfl
  refine take_ (i:=1) (N:=some 6) (v:=?_) (a':=?_) #[Y,Y,Y,Z,Z,Z,Z,Z,Z,Z,Z,Z,Z,Z,Z] rfl rfl (take_ofW HT_.out HW_.out (by kernel_rfl)) (fun _ _ _ h=>h) (Or.inl ⟨by rfl,?_⟩) hHeld ?_ ?_;rotate_left
  ·rintro w' ⟨s0,s1,s2,s3,s4⟩;go_simp;with_reducible rfl
  rotate_left
  ·simp only [Act.put,sIb,sZ,sS,i64_w,i32_w];rfl
  refine take_ (i:=3) (N:=some 8) (v:=?_) (a':=?_) #[Y,Y,Y,Y,Z,Z,Z,Z,Z,Z,Z,Z,Z,Z,Z] rfl rfl (take_ofW HT_.out HW_.out (by kernel_rfl)) (fun _ _ _ h=>h) (Or.inl ⟨by rfl,?_⟩) hHeld ?_ ?_;rotate_left
  ·rintro w' ⟨s0,s1,s2,s3,s4⟩;go_simp;with_reducible rfl
  rotate_left
  ·simp only [Act.put,sIb,sZ,sS,i64_w,i32_w];rfl
  refine pure_ (i:=4) (N:=some 9) (v:=?_) (a':=?_) #[Y,Y,Y,Y,Y,Z,Z,Z,Z,Z,Z,Z,Z,Z,Z] rfl rfl (any_of HT_.out (by kernel_rfl)) (fun _ _ _ h=>h) (Or.inl ⟨by rfl,?_⟩) ?_ ?_;rotate_left
  ·intro w';go_simp;with_reducible rfl
  rotate_left
  ·simp only [Act.put,sIb,sZ,sS,i64_w,i32_w];rfl
  refine pure_ (i:=5) (N:=some 10) (v:=?_) (a':=?_) #[Y,Y,Y,Y,Y,Y,Z,Z,Z,Z,Z,Z,Z,Z,Z] rfl rfl (any_of HT_.out (by kernel_rfl)) (fun _ _ _ h=>h) (Or.inl ⟨by rfl,?_⟩) ?_ ?_;rotate_left
  ·intro w';go_simp;with_reducible rfl
  rotate_left
  ·simp only [Act.put,sIb,sZ,sS,i64_w,i32_w];rfl
  refine pure_ (i:=7) (N:=some 12) (v:=?_) (a':=?_) #[Y,Y,Y,Y,Y,Y,Z,Y,Z,Z,Z,Z,Z,Z,Z] rfl rfl (any_of HT_.out (by kernel_rfl)) (fun _ _ _ h=>h) (Or.inl ⟨by rfl,?_⟩) ?_ ?_;rotate_left
  ·intro w';go_simp;with_reducible rfl
  rotate_left
  ·simp only [Act.put,sIb,sZ,sS,i64_w,i32_w];rfl
  refine pure_ (i:=10) (N:=some 15) (v:=?_) (a':=?_) #[Y,Y,Y,Y,Y,Y,Z,Y,Z,Z,Y,Z,Z,Z,Z] rfl rfl (any_of HT_.out (by kernel_rfl)) (fun _ _ _ h=>h) (Or.inl ⟨by rfl,?_⟩) ?_ ?_;rotate_left
  ·intro w';go_simp;with_reducible rfl
  rotate_left
  ·simp only [Act.put,sIb,sZ,sS,i64_w,i32_w];rfl
  refine take_ (i:=6) (N:=some 11) (v:=?_) (a':=?_) #[Y,Y,Y,Y,Y,Y,Y,Y,Z,Z,Y,Z,Z,Z,Z] rfl rfl (take_ofW HT_.out HW_.out (by kernel_rfl)) (fun _ _ _ h=>h) (Or.inl ⟨by rfl,?_⟩) hHeld ?_ ?_;rotate_left
  ·rintro w' ⟨s0,s1,s2,s3,s4⟩;go_simp;with_reducible rfl
  rotate_left
  ·simp only [Act.put,sIb,sZ,sS,i64_w,i32_w];rfl
  refine take_ (i:=8) (N:=some 13) (v:=?_) (a':=?_) #[Y,Y,Y,Y,Y,Y,Y,Y,Y,Z,Y,Z,Z,Z,Z] rfl rfl (take_ofW HT_.out HW_.out (by kernel_rfl)) (fun _ _ _ h=>h) (Or.inl ⟨by rfl,?_⟩) hHeld ?_ ?_;rotate_left
  ·rintro w' ⟨s0,s1,s2,s3,s4⟩;go_simp;with_reducible rfl
  rotate_left
  ·simp only [Act.put,sIb,sZ,sS,i64_w,i32_w];rfl
  refine take_ (i:=11) (N:=some 16) (v:=?_) (a':=?_) #[Y,Y,Y,Y,Y,Y,Y,Y,Y,Z,Y,Y,Z,Z,Z] rfl rfl (take_ofW HT_.out HW_.out (by kernel_rfl)) (fun _ _ _ h=>h) (Or.inl ⟨by rfl,?_⟩) hHeld ?_ ?_;rotate_left
  ·rintro w' ⟨s0,s1,s2,s3,s4⟩;go_simp;with_reducible rfl
  rotate_left
  ·simp only [Act.put,sIb,sZ,sS,i64_w,i32_w];rfl
  refine one_ (i:=9) (N:=some 14) #[Y,Y,Y,Y,Y,Y,Y,Y,Y,Y,Y,Y,Z,Z,Z] rfl rfl (one_of HT_.out (by kernel_rfl)) (by decide) (fun K hK=>?_);refine goes_ Try.func186 (by kernel_rfl) rfl #[.slice aR aA.length aT,.slice ai af.length aj] (by rfl) rfl rfl (by (try simp only [mT,mC,mN]);first|done|rfl|(simp only [lD,lT];rfl)) ?_;with_reducible refine (impl_mapped.calls k _ _ aA _ _ af aq _ ?side1 ?side2 ?side3 ?side4 A3.out).mono ?_
  (case side1=>exact (cB aU.out HB.out));(case side2=>exact aV.out);(case side3=>exact (cB aD.out HB.out));(case side4=>exact aE.out);rintro e w7 ⟨bb,rfl,ho0,hb⟩;refine ⟨_,rfl,?_⟩;have am:=qK (Kd.R_lower ho0 (qZ HB.out));have an:=qK (qB (g:=B0) (o:=_) aa.out hb);have ao:=qK (qB (g:=B1) (o:=_) ab.out hb);have ap:=qK (qB (g:=ad) (o:=_) ac.out hb);have az:=qK (qT HB.out hb);clear aa ab ac HB;have ay:=am;have aa:=an;have ab:=ao;have ac:=ap;have HB:=az;clear am an ao ap az;(try clear hb);(try clear ho0);obtain ⟨bc,bd,be⟩:=Kd.R_slice ay.out;subst be;refine hK.out _ _ ⟨(qC ac.out 0).trans rfl,(qC ac.out 1).trans rfl,(qC aa.out 0).trans rfl,(qC aa.out 1).trans rfl,(qC ab.out 0).trans rfl⟩ (fun hHeld=>?_);clear hK K;refine norm_ (a':=?_) ?_ ?_;rotate_left
  ·show Act.put _ (some 14) _=_
   simp only [Act.put,sIb,sZ,sS,i64_w,i32_w];rfl
  refine one_ (i:=12) (N:=some 17) #[Y,Y,Y,Y,Y,Y,Y,Y,Y,Y,Y,Y,Y,Z,Z] rfl rfl (one_of HT_.out (by kernel_rfl)) (by decide) (fun K hK=>?_);refine goes_ Try.func185 (by kernel_rfl) rfl #[.slice bc aq.length bd,.slice ak ag.length al] (by rfl) rfl rfl (by (try simp only [mT,mC,mN]);first|done|rfl|(simp only [lD,lT];rfl)) ?_;with_reducible refine (slices_Equal_int_int.calls k _ _ aq _ _ ag ar _ ?side1 ?side2 ?side3 ?side4 A4.out).mono ?_
  (case side1=>exact (Kd.R_reads' ay.out).2.2);(case side2=>exact (Kd.R_reads' ay.out).2.1);(case side3=>exact (cB aI.out HB.out));(case side4=>exact aJ.out);rintro e w' ⟨rfl,⟨nd,rfl⟩⟩;refine ⟨_,rfl,?_⟩;refine hK.out _ _ ⟨(qC ac.out 0).trans rfl,(qC ac.out 1).trans rfl,(qC aa.out 0).trans rfl,(qC aa.out 1).trans rfl,(qC ab.out 0).trans rfl⟩ (fun hHeld=>?_);clear hK K;refine norm_ (a':=?_) ?_ ?_;rotate_left
  ·show Act.put _ (some 17) _=_
   simp only [Act.put,sIb,sZ,sS,i64_w,i32_w];rfl
  refine pure_ (i:=13) (N:=some 18) (v:=?_) (a':=?_) #[Y,Y,Y,Y,Y,Y,Y,Y,Y,Y,Y,Y,Y,Y,Z] rfl rfl (any_of HT_.out (by kernel_rfl)) (fun _ _ _ h=>h) (Or.inl ⟨by rfl,?_⟩) ?_ ?_;rotate_left
  ·intro w';go_simp;with_reducible rfl
  rotate_left
  ·simp only [Act.put,sIb,sZ,sS,i64_w,i32_w];rfl
  refine pure_ (i:=14) (N:=some 4) (v:=?_) (a':=?_) #[Y,Y,Y,Y,Y,Y,Y,Y,Y,Y,Y,Y,Y,Y,Y] rfl rfl (any_of HT_.out (by kernel_rfl)) (fun _ _ _ h=>h) (Or.inl ⟨by rfl,?_⟩) ?_ ?_;rotate_left
  ·intro w';go_simp;with_reducible rfl
  rotate_left
  ·simp only [Act.put,sIb,sZ,sS,i64_w,i32_w];rfl
  refine done_ (done_of HT_.out (by kernel_rfl)) ?_;try go_wp2
  go_ret
  exact ⟨by rfl,by repeat (first|(with_reducible first|exact HB.out|apply qA|apply qD|apply qO|refine qS ?_ GE193.out|refine qS ?_ GE194.out|refine qS ?_ aC.out)|exact HB.out)⟩
 ·rw [if_neg c2] at H;have aW:(ah == ae)=false:=beq_eq_false_iff_ne.mpr c2;have aX:(ah != ae)=true:=bne_iff_ne.mpr c2;obtain rfl:=Option.some.inj H;go_enter Try.func188,Try.ntmps188
  try go_wp2_with (first|((with_reducible refine gate_dst (N:=3) rfl ?_);refine box_event ?hg (N:=3) ?hd (cs:=#[.int .i64 ah,.slice ak ag.length al]) (t:=97) ?hr ?_;(case hd=>rfl);(case hg=>rfl);(case hr=>(go_simp;try rfl));intro ad hg w9 hbox hb;have am:=qK (qB (g:=B0) (o:=_) aa.out hb);have an:=qK (qB (g:=B1) (o:=_) ab.out hb);have ao:=qK (qT HB.out hb);have ap:=qK (hbox);have az:=qK ((by rw [hg];exact (qZ HB.out):w.heap.size≤ad));have aK:=az;have aG:=qK ((by rw [hg];exact Nat.ne_of_lt (blk_lt (g:=B0) (o:=_) aa.out):B0 ≠ ad));have aM:=qK aG.out.symm;have aH:=qK ((by rw [hg];exact Nat.ne_of_lt (blk_lt (g:=B1) (o:=_) ab.out):B1 ≠ ad));have aN:=qK aH.out.symm;clear aa ab HB;have aa:=am;have ab:=an;have HB:=ao;have ac:=ap;have aQ:=az;have aC:=aK;have au:=aG;have av:=aM;have aw:=aH;have ax:=aN;clear am an ao ap az aK aG aM aH aN;clear hb hbox hg))
  have am:=qK (qW aa.out);have an:=qK (qW ab.out);have ao:=qK (qW ac.out);have ap:=qK (qO HB.out);clear aa ab ac HB;have aa:=am;have ab:=an;have ac:=ao;have HB:=ap;clear am an ao ap;refine start_ (n:=15) (S:=fun w'=>w'.cell? ⟨ad,0,none⟩=some (.int .i64 ah)∧w'.cell? ⟨ad,1,none⟩=some (.slice ak ag.length al)∧w'.cell? ⟨B0,0,none⟩=some (.int .i64 ae)∧w'.cell? ⟨B0,1,none⟩=some (.slice ai af.length aj)) (ds:=[]) #[Z,Z,Z,Z,Z,Z,Z,Z,Z,Z,Z,Z,Z,Z,Z] (by kernel_rfl) rfl rfl ⟨(qC ac.out 0).trans rfl,(qC ac.out 1).trans rfl,(qC aa.out 0).trans rfl,(qC aa.out 1).trans rfl⟩ (fun hHeld=>?_);refine with_tabW impl_isMap_1_1.tab1 impl_isMap_1_1.bits1 (fun HT_ HW_=>?_);generalize w9.drew=w10 at aa ab ac HB hHeld ⊢
  refine pure_ (i:=0) (N:=some 5) (v:=?_) (a':=?_) #[Y,Z,Z,Z,Z,Z,Z,Z,Z,Z,Z,Z,Z,Z,Z] rfl rfl (any_of HT_.out (by kernel_rfl)) (fun _ _ _ h=>h) (Or.inl ⟨by rfl,?_⟩) ?_ ?_;rotate_left
  ·intro w';go_simp;with_reducible rfl
  rotate_left
  ·simp only [Act.put,sIb,sZ,sS,i64_w,i32_w];rfl
  refine pure_ (i:=2) (N:=some 7) (v:=?_) (a':=?_) #[Y,Z,Y,Z,Z,Z,Z,Z,Z,Z,Z,Z,Z,Z,Z] rfl rfl (any_of HT_.out (by kernel_rfl)) (fun _ _ _ h=>h) (Or.inl ⟨by rfl,?_⟩) ?_ ?_;rotate_left
  ·intro w';go_simp;with_reducible rfl
  rotate_left
  ·simp only [Act.put,sIb,sZ,sS,i64_w,i32_w];rfl
  refine take_ (i:=1) (N:=some 6) (v:=?_) (a':=?_) #[Y,Y,Y,Z,Z,Z,Z,Z,Z,Z,Z,Z,Z,Z,Z] rfl rfl (take_ofW HT_.out HW_.out (by kernel_rfl)) (fun _ _ _ h=>h) (Or.inl ⟨by rfl,?_⟩) hHeld ?_ ?_;rotate_left
  ·rintro w' ⟨s0,s1,s2,s3⟩;go_simp;with_reducible rfl
  rotate_left
  ·simp only [Act.put,sIb,sZ,sS,i64_w,i32_w];rfl
  refine take_ (i:=3) (N:=some 8) (v:=?_) (a':=?_) #[Y,Y,Y,Y,Z,Z,Z,Z,Z,Z,Z,Z,Z,Z,Z] rfl rfl (take_ofW HT_.out HW_.out (by kernel_rfl)) (fun _ _ _ h=>h) (Or.inl ⟨by rfl,?_⟩) hHeld ?_ ?_;rotate_left
  ·rintro w' ⟨s0,s1,s2,s3⟩;go_simp;with_reducible rfl
  rotate_left
  ·simp only [Act.put,sIb,sZ,sS,i64_w,i32_w];rfl
  refine pure_ (i:=4) (N:=some 9) (v:=?_) (a':=?_) #[Y,Y,Y,Y,Y,Z,Z,Z,Z,Z,Z,Z,Z,Z,Z] rfl rfl (any_of HT_.out (by kernel_rfl)) (fun _ _ _ h=>h) (Or.inl ⟨by rfl,?_⟩) ?_ ?_;rotate_left
  ·intro w';go_simp;with_reducible rfl
  rotate_left
  ·simp only [Act.put,sIb,sZ,sS,i64_w,i32_w];rfl
  refine pure_ (i:=5) (N:=some 10) (v:=?_) (a':=?_) #[Y,Y,Y,Y,Y,Y,Z,Z,Z,Z,Z,Z,Z,Z,Z] rfl rfl (any_of HT_.out (by kernel_rfl)) (fun _ _ _ h=>h) (Or.inl ⟨by rfl,?_⟩) ?_ ?_;rotate_left
  ·intro w';go_simp;with_reducible rfl
  rotate_left
  ·simp only [Act.put,sIb,sZ,sS,i64_w,i32_w];rfl
  refine pure_ (i:=6) (N:=some 11) (v:=undef) (a':=?_) #[Y,Y,Y,Y,Y,Y,Y,Z,Z,Z,Z,Z,Z,Z,Z] rfl rfl (any_of HT_.out (by kernel_rfl)) (fun _ _ _ h=>h) (Or.inr ⟨by rfl,rfl⟩) ?_ ?_;rotate_left
  ·simp only [Act.put,sIb,sZ,sS,i64_w,i32_w];rfl
  refine pure_ (i:=7) (N:=some 12) (v:=undef) (a':=?_) #[Y,Y,Y,Y,Y,Y,Y,Y,Z,Z,Z,Z,Z,Z,Z] rfl rfl (any_of HT_.out (by kernel_rfl)) (fun _ _ _ h=>h) (Or.inr ⟨by rfl,rfl⟩) ?_ ?_;rotate_left
  ·simp only [Act.put,sIb,sZ,sS,i64_w,i32_w];rfl
  refine pure_ (i:=8) (N:=some 13) (v:=undef) (a':=?_) #[Y,Y,Y,Y,Y,Y,Y,Y,Y,Z,Z,Z,Z,Z,Z] rfl rfl (any_of HT_.out (by kernel_rfl)) (fun _ _ _ h=>h) (Or.inr ⟨by rfl,rfl⟩) ?_ ?_;rotate_left
  ·simp only [Act.put,sIb,sZ,sS,i64_w,i32_w];rfl
  refine pure_ (i:=9) (N:=some 14) (v:=undef) (a':=?_) #[Y,Y,Y,Y,Y,Y,Y,Y,Y,Y,Z,Z,Z,Z,Z] rfl rfl (any_of HT_.out (by kernel_rfl)) (fun _ _ _ h=>h) (Or.inr ⟨by rfl,rfl⟩) ?_ ?_;rotate_left
  ·simp only [Act.put,sIb,sZ,sS,i64_w,i32_w];rfl
  refine pure_ (i:=10) (N:=some 15) (v:=undef) (a':=?_) #[Y,Y,Y,Y,Y,Y,Y,Y,Y,Y,Y,Z,Z,Z,Z] rfl rfl (any_of HT_.out (by kernel_rfl)) (fun _ _ _ h=>h) (Or.inr ⟨by rfl,rfl⟩) ?_ ?_;rotate_left
  ·simp only [Act.put,sIb,sZ,sS,i64_w,i32_w];rfl
  refine pure_ (i:=11) (N:=some 16) (v:=undef) (a':=?_) #[Y,Y,Y,Y,Y,Y,Y,Y,Y,Y,Y,Y,Z,Z,Z] rfl rfl (any_of HT_.out (by kernel_rfl)) (fun _ _ _ h=>h) (Or.inr ⟨by rfl,rfl⟩) ?_ ?_;rotate_left
  ·simp only [Act.put,sIb,sZ,sS,i64_w,i32_w];rfl
  refine pure_ (i:=12) (N:=some 17) (v:=undef) (a':=?_) #[Y,Y,Y,Y,Y,Y,Y,Y,Y,Y,Y,Y,Y,Z,Z] rfl rfl (any_of HT_.out (by kernel_rfl)) (fun _ _ _ h=>h) (Or.inr ⟨by rfl,rfl⟩) ?_ ?_;rotate_left
  ·simp only [Act.put,sIb,sZ,sS,i64_w,i32_w];rfl
  refine pure_ (i:=13) (N:=some 18) (v:=?_) (a':=?_) #[Y,Y,Y,Y,Y,Y,Y,Y,Y,Y,Y,Y,Y,Y,Z] rfl rfl (any_of HT_.out (by kernel_rfl)) (fun _ _ _ h=>h) (Or.inl ⟨by rfl,?_⟩) ?_ ?_;rotate_left
  ·intro w';go_simp;with_reducible rfl
  rotate_left
  ·simp only [Act.put,sIb,sZ,sS,i64_w,i32_w];rfl
  refine pure_ (i:=14) (N:=some 4) (v:=?_) (a':=?_) #[Y,Y,Y,Y,Y,Y,Y,Y,Y,Y,Y,Y,Y,Y,Y] rfl rfl (any_of HT_.out (by kernel_rfl)) (fun _ _ _ h=>h) (Or.inl ⟨by rfl,?_⟩) ?_ ?_;rotate_left
  ·intro w';go_simp;with_reducible rfl
  rotate_left
  ·simp only [Act.put,sIb,sZ,sS,i64_w,i32_w];rfl
  refine done_ (done_of HT_.out (by kernel_rfl)) ?_;try go_wp2
  go_ret
  exact ⟨by rfl,HB.out⟩

/-! ### anyf_impl_isMap_1_1: function 163, handed function 188 -/
def anyf_impl_isMap_1_1.f (k : Nat) (l : List S97) (a90_0 : Int) (l90_1 : List Int) (l91 : List Int) : Option Bool := if l.all (fun d => (impl_isMap_1_1.f k d.f0 d.f1 a90_0 l90_1 l91).isSome) = true then some (l.any (fun d => (impl_isMap_1_1.f k d.f0 d.f1 a90_0 l90_1 l91).getD false)) else none
theorem anyf_impl_isMap_1_1.mono : ∀ ad ae af ag k, LeO (anyf_impl_isMap_1_1.f k ad ae af ag) (anyf_impl_isMap_1_1.f (k + 1) ad ae af ag) := by
  intro l aa ab ac k r h
  unfold anyf_impl_isMap_1_1.f at h ⊢
  by_cases hs : l.all (fun d => (impl_isMap_1_1.f k d.f0 d.f1 aa ab ac).isSome) = true
  case neg => rw [if_neg hs] at h; cases h
  rw [if_pos hs] at h
  have hx : ∀ d ∈ l, impl_isMap_1_1.f (k + 1) d.f0 d.f1 aa ab ac = impl_isMap_1_1.f k d.f0 d.f1 aa ab ac := by
    intro d hd
    obtain ⟨r, hr⟩ := Option.isSome_iff_exists.1 (List.all_eq_true.1 hs d hd)
    rw [hr]; exact impl_isMap_1_1.mono _ _ _ _ _ k r hr
  rw [if_pos (List.all_eq_true.2 fun d hd => by rw [hx d hd]; exact List.all_eq_true.1 hs d hd), ← h]
  congr 1
  exact any_same fun d hd => by rw [hx d hd]
theorem anyf_impl_isMap_1_1.calls (k : Nat) (A : Option Addr) (c : Nat) (l : List S97) (B0 : Nat) (ab : Int) (ac : Option Addr) (ad : Nat) (aa : List Int) (B1 : Nat) (af : Option Addr) (ag : Nat) (ae : List Int) (r : Bool) (w : World) (hr : Kd.C k97 w A l.length l) (hc : l.length ≤ c) (hr90_1 : Kd.C (Kd.int .i64) w ac aa.length aa) (hc90_1 : aa.length ≤ ad) (hq0 : w.heap[B0]? = some (.cells #[.int .i64 ab, .slice ac aa.length ad] 97 (0, 0))) (hr91 : Kd.C (Kd.int .i64) w af ae.length ae) (hc91 : ae.length ≤ ag) (hq1 : w.heap[B1]? = some (.cells #[.slice af ae.length ag] 22 (0, 0))) (h : anyf_impl_isMap_1_1.f k l ab aa ae = some r) :
    Calls Try.prog 163 #[.slice A l.length c, .func (.func 188) #[] #[.pointer (some ⟨B0, 0, none⟩), .pointer (some ⟨B1, 0, none⟩)]] w fun e w' => e = .returned (.bool r) ∧ Below w.heap.size w w' := by
  unfold anyf_impl_isMap_1_1.f at h
  by_cases hs : l.all (fun d => (impl_isMap_1_1.f k d.f0 d.f1 ab aa ae).isSome) = true
  case neg => rw [if_neg hs] at h; cases h
  rw [if_pos hs] at h
  obtain rfl : l.any (fun d => (impl_isMap_1_1.f k d.f0 d.f1 ab aa ae).getD false) = r := Option.some.inj h
  refine anyf_Atom.calls A c l 188 _ _ w (enters_of Try.func188 (by kernel_rfl) rfl) hr ?_
  intro W d v hd hW hv
  obtain ⟨r_, hr_⟩ := Option.isSome_iff_exists.1 (List.all_eq_true.1 hs d hd)
  obtain ⟨cs, rfl, hK⟩ := hv
  obtain ⟨aj, ak, e_, ah, ai⟩ := k97_open hK
  subst e_
  refine (impl_isMap_1_1.calls (w := W) (hr0_1 := ai) (hc0_1 := ah) (hr90_1 := Kd.C_below hr90_1 hW) (hc90_1 := hc90_1) (hq0 := blk_below hq0 hW) (hr91 := Kd.C_below hr91 hW) (hc91 := hc91) (hq1 := blk_below hq1 hW) (h := hr_)).mono ?_
  rintro e w' ⟨rfl, hb⟩
  exact ⟨by show _ = Ending.returned (Value.bool ((impl_isMap_1_1.f k d.f0 d.f1 ab aa ae).getD false)); rw [hr_]; rfl, hb⟩

/-! ### impl_isMap_1: function 187 -/
def impl_isMap_1.f (k:Nat) (a0_0:Int) (l0_1:List Int) (l90_0:List Int) (l90_1:List (S97)) (l91:List Int):Option (Bool):=(anyf_impl_isMap_1_1.f k l90_1 a0_0 l0_1 l91).bind fun t203=>(some t203)
theorem impl_isMap_1.mono : ∀ a0 a1 a2 a3 a4 k,LeO (impl_isMap_1.f k a0 a1 a2 a3 a4) (impl_isMap_1.f (k + 1) a0 a1 a2 a3 a4):=by
 intro a0 a1 a2 a3 a4 k;unfold impl_isMap_1.f
 repeat' first
   | (with_reducible exact anyf_impl_isMap_1_1.mono _ _ _ _ _)
   | (with_reducible exact LeO.refl _)
   | (with_reducible exact LeO.none _)
   | (with_reducible refine LeO.ite ?_ ?_)
   | (with_reducible refine LeO.bind ?_ (fun _=>?_))
   | exact anyf_impl_isMap_1_1.mono _ _ _ _ _
   | exact LeO.none _
   | refine LeO.ite ?_ ?_
   | refine LeO.bind ?_ (fun _=>?_)
set_option maxHeartbeats 8000000 in
set_option maxRecDepth 100000 in
theorem impl_isMap_1.calls (k:Nat) (al:Int) (ao:Option Addr) (ap:Nat) (af:List Int) (B0:Nat) (am:Option Addr) (an:Nat) (ad:List Int) (ag:Option Addr) (ah:Nat) (ab:List (S97)) (B1:Nat) (aG:Option Addr) (aH:Nat) (ar:List Int) (r:Bool) (w:World) (hr0_1:Kd.C (Kd.int .i64) w ao af.length af) (hc0_1:af.length≤ap) (hr90_0:Kd.C (Kd.int .i64) w am ad.length ad) (hc90_0:ad.length≤an) (hr90_1:Kd.C k97 w ag ab.length ab) (hc90_1:ab.length≤ah) (hr91:Kd.C (Kd.int .i64) w aG ar.length ar) (hc91:ar.length≤aH) (hq0:w.heap[B0]?=some (.cells #[.slice am ad.length an,.slice ag ab.length ah] 32 (0,0))) (hq1:w.heap[B1]?=some (.cells #[.slice aG ar.length aH] 22 (0,0))) (h:impl_isMap_1.f k al af ad ab ar=some r) :
  Calls Try.prog 187 #[.agg #[.int .i64 al,.slice ao af.length ap],.pointer (some ⟨B0,0,none⟩),.pointer (some ⟨B1,0,none⟩)] w fun e w'=>e=.returned (.bool r)∧Below w.heap.size w w':=by
 have bd:=Try.underlying97;have ay:=qK hr0_1;have az:=qK hc0_1;clear hr0_1 hc0_1;have aI:=qK hr90_0;have aJ:=qK hc90_0;clear hr90_0 hc90_0;have au:=qK hr90_1;have av:=qK hc90_1;clear hr90_1 hc90_1;have aa:=qK hq0;clear hq0;have aK:=qK hr91;have aM:=qK hc91;clear hr91 hc91;have ac:=qK hq1;clear hq1;have HB:=qK (Below.refl w.heap.size w);have H:((anyf_impl_isMap_1_1.f k ab al af ar).bind fun aq=>(some aq))=some r:=h;clear h;replace H:=Option.bind_eq_some_iff.mp H;obtain ⟨aq,aX,H⟩:=H;replace H:(some aq)=some r:=H;have A2:=qK aX;clear aX;obtain rfl:=Option.some.inj H;go_enter Try.func187,Try.ntmps187
 go_wp2_with (first|((with_reducible refine gate_dst (N:=3) rfl ?_);refine box_event ?hg (N:=3) ?hd (cs:=#[.int .i64 al,.slice ao af.length ap]) (t:=97) ?hr ?_;(case hd=>rfl);(case hg=>rfl);(case hr=>(go_simp;try rfl));intro ae hg w3 hbox hb;have aA:=qK (qB (g:=B0) (o:=_) aa.out hb);have aC:=qK (qB (g:=B1) (o:=_) ac.out hb);have aD:=qK (qT HB.out hb);have aE:=qK (hbox);have aN:=qK ((by rw [hg];exact (qZ HB.out):w.heap.size≤ae));have aY:=aN;have aQ:=qK ((by rw [hg];exact Nat.ne_of_lt (blk_lt (g:=B0) (o:=_) aa.out):B0 ≠ ae));have aZ:=qK aQ.out.symm;have aR:=qK ((by rw [hg];exact Nat.ne_of_lt (blk_lt (g:=B1) (o:=_) ac.out):B1 ≠ ae));have ba:=qK aR.out.symm;clear aa ac HB;have aa:=aA;have ac:=aC;have HB:=aD;have ai:=aE;have bb:=aN;have bc:=aY;have aj:=aQ;have ak:=aZ;have aw:=aR;have ax:=ba;clear aA aC aD aE aN aY aQ aZ aR ba hb hbox hg;have be:=aj.out;have bf:=ak.out;have aT:w3.cell? ⟨B0,0,none⟩=some (.slice am ad.length an):=(qC aa.out 0).trans rfl;have aU:w3.cell? ⟨B0,1,none⟩=some (.slice ag ab.length ah):=(qC aa.out 1).trans rfl;have aV:=qF aa.out 0;have aW:=qF aa.out 1)|((with_reducible refine gate_callee (f:=163) rfl ?_);refine goesL_ (some 8) rfl rfl Try.func163 (by kernel_rfl) rfl #[.slice ag ab.length ah,.func (.func 188) #[] #[.pointer (some ⟨ae,0,none⟩),.pointer (some ⟨B1,0,none⟩)]] rfl (by (try simp only [mT,mC,mN]);first|done|rfl|(simp only [lD,lT];rfl)) ?_;(with_reducible refine (anyf_impl_isMap_1_1.calls k _ _ ab ae al ao ap af B1 aG aH ar aq _ ?side1 ?side2 ?side3 ?side4 ?side5 ?side6 ?side7 ?side8 A2.out).mono ?_);(case side1=>exact (cB au.out HB.out));(case side2=>exact av.out);(case side3=>exact (cB ay.out HB.out));(case side4=>exact az.out);(case side5=>exact ai.out);(case side6=>exact (cB aK.out HB.out));(case side7=>exact aM.out);(case side8=>exact ac.out);rintro e w6 ⟨rfl,hb⟩;refine ⟨_,rfl,?_⟩;have aA:=qK (qB (g:=B0) (o:=_) aa.out hb);have aC:=qK (qB (g:=B1) (o:=_) ac.out hb);have aD:=qK (qB (g:=ae) (o:=_) ai.out hb);have aE:=qK (qT HB.out hb);clear aa ac ai HB;have aa:=aA;have ac:=aC;have ai:=aD;have HB:=aE;clear aA aC aD aE;(try clear hb)))
 go_ret
 exact ⟨by rfl,HB.out⟩

/-! ### areAll_impl_isMap_1: function 120, handed function 187 -/
def areAll_impl_isMap_1.f (k : Nat) (l : List S97) (l90_0 : List Int) (l90_1 : List (S97)) (l91 : List Int) : Option Bool := if l.all (fun d => (impl_isMap_1.f k d.f0 d.f1 l90_0 l90_1 l91).isSome) = true then some (l.all (fun d => (impl_isMap_1.f k d.f0 d.f1 l90_0 l90_1 l91).getD false)) else none
theorem areAll_impl_isMap_1.mono : ∀ ad ae af ag k, LeO (areAll_impl_isMap_1.f k ad ae af ag) (areAll_impl_isMap_1.f (k + 1) ad ae af ag) := by
  intro l aa ab ac k r h
  unfold areAll_impl_isMap_1.f at h ⊢
  by_cases hs : l.all (fun d => (impl_isMap_1.f k d.f0 d.f1 aa ab ac).isSome) = true
  case neg => rw [if_neg hs] at h; cases h
  rw [if_pos hs] at h
  have hx : ∀ d ∈ l, impl_isMap_1.f (k + 1) d.f0 d.f1 aa ab ac = impl_isMap_1.f k d.f0 d.f1 aa ab ac := by
    intro d hd
    obtain ⟨r, hr⟩ := Option.isSome_iff_exists.1 (List.all_eq_true.1 hs d hd)
    rw [hr]; exact impl_isMap_1.mono _ _ _ _ _ k r hr
  rw [if_pos (List.all_eq_true.2 fun d hd => by rw [hx d hd]; exact List.all_eq_true.1 hs d hd), ← h]
  congr 1
  exact all_same fun d hd => by rw [hx d hd]
theorem areAll_impl_isMap_1.calls (k : Nat) (A : Option Addr) (c : Nat) (l : List S97) (B0 : Nat) (ac : Option Addr) (ad : Nat) (aa : List Int) (ae : Option Addr) (af : Nat) (ab : List (S97)) (B1 : Nat) (ah : Option Addr) (ai : Nat) (ag : List Int) (r : Bool) (w : World) (hr : Kd.C k97 w A l.length l) (hc : l.length ≤ c) (hr90_0 : Kd.C (Kd.int .i64) w ac aa.length aa) (hc90_0 : aa.length ≤ ad) (hr90_1 : Kd.C k97 w ae ab.length ab) (hc90_1 : ab.length ≤ af) (hq0 : w.heap[B0]? = some (.cells #[.slice ac aa.length ad, .slice ae ab.length af] 32 (0, 0))) (hr91 : Kd.C (Kd.int .i64) w ah ag.length ag) (hc91 : ag.length ≤ ai) (hq1 : w.heap[B1]? = some (.cells #[.slice ah ag.length ai] 22 (0, 0))) (h : areAll_impl_isMap_1.f k l aa ab ag = some r) :
    Calls Try.prog 120 #[.slice A l.length c, .func (.func 187) #[] #[.pointer (some ⟨B0, 0, none⟩), .pointer (some ⟨B1, 0, none⟩)]] w fun e w' => e = .returned (.bool r) ∧ Below w.heap.size w w' := by
  unfold areAll_impl_isMap_1.f at h
  by_cases hs : l.all (fun d => (impl_isMap_1.f k d.f0 d.f1 aa ab ag).isSome) = true
  case neg => rw [if_neg hs] at h; cases h
  rw [if_pos hs] at h
  obtain rfl : l.all (fun d => (impl_isMap_1.f k d.f0 d.f1 aa ab ag).getD false) = r := Option.some.inj h
  refine areAll_Atom.calls A c l 187 _ _ w (enters_of Try.func187 (by kernel_rfl) rfl) hr ?_
  intro W d v hd hW hv
  obtain ⟨r_, hr_⟩ := Option.isSome_iff_exists.1 (List.all_eq_true.1 hs d hd)
  obtain ⟨cs, rfl, hK⟩ := hv
  obtain ⟨al, am, e_, aj, ak⟩ := k97_open hK
  subst e_
  refine (impl_isMap_1.calls (w := W) (hr0_1 := ak) (hc0_1 := aj) (hr90_0 := Kd.C_below hr90_0 hW) (hc90_0 := hc90_0) (hr90_1 := Kd.C_below hr90_1 hW) (hc90_1 := hc90_1) (hq0 := blk_below hq0 hW) (hr91 := Kd.C_below hr91 hW) (hc91 := hc91) (hq1 := blk_below hq1 hW) (h := hr_)).mono ?_
  rintro e w' ⟨rfl, hb⟩
  exact ⟨by show _ = Ending.returned (Value.bool ((impl_isMap_1.f k d.f0 d.f1 aa ab ag).getD false)); rw [hr_]; rfl, hb⟩

/-! ### impl_isMap: function 151 -/
def impl_isMap.f (k:Nat) (l0:List Int) (l1_0:List Int) (l1_1:List (S97)) (l2_0:List Int) (l2_1:List (S97)):Option (Bool):=(impl_mapped.f k l0 l2_0).bind fun t207=>((slices_Equal_int_int.f k t207 l1_0).bind fun t210=>(if t210=true then ((areAll_impl_isMap_1.f k l2_1 l1_0 l1_1 l0).bind fun t211=>(some t211)) else (some false)))
theorem impl_isMap.mono : ∀ a0 a1 a2 a3 a4 k,LeO (impl_isMap.f k a0 a1 a2 a3 a4) (impl_isMap.f (k + 1) a0 a1 a2 a3 a4):=by
 intro a0 a1 a2 a3 a4 k;unfold impl_isMap.f
 repeat' first
   | (with_reducible exact areAll_impl_isMap_1.mono _ _ _ _ _)
   | (with_reducible exact impl_mapped.mono _ _ _)
   | (with_reducible exact slices_Equal_int_int.mono _ _ _)
   | (with_reducible exact LeO.refl _)
   | (with_reducible exact LeO.none _)
   | (with_reducible refine LeO.ite ?_ ?_)
   | (with_reducible refine LeO.bind ?_ (fun _=>?_))
   | exact areAll_impl_isMap_1.mono _ _ _ _ _
   | exact impl_mapped.mono _ _ _
   | exact slices_Equal_int_int.mono _ _ _
   | exact LeO.none _
   | refine LeO.ite ?_ ?_
   | refine LeO.bind ?_ (fun _=>?_)
def impl_isMap.T1 : Bool × List (List Nat × List Nat):=(true,[([],[]),([],[]),([1],[1]),([0,2],[0,2]),([],[]),([4],[4]),([3,5,3],[3,5]),([6,6],[6]),([7],[7]),([8,7],[7,8]),([7],[7]),([9,10,7,7],[7,9,10]),([7,11],[7,11]),([12,11,0,1,2,3,4,5,6,7,8,9,10,11,12],[12])])
def impl_isMap.B1 : List Nat:=[0,0,2,7,0,16,63,127,255,511,255,2047,4095,8191]
theorem impl_isMap.tab1 : rtab .any (opsOf Try.f151 1)=impl_isMap.T1:=by kernel_rfl
theorem impl_isMap.bits1 : waitsOk impl_isMap.T1.2 impl_isMap.B1=true:=by kernel_rfl
set_option maxHeartbeats 8000000 in
set_option maxRecDepth 100000 in
theorem impl_isMap.calls (k:Nat) (A0:Option Addr) (c0:Nat) (l0:List Int) (aw:Option Addr) (ax:Nat) (ag:List Int) (aC:Option Addr) (aD:Nat) (an:List (S97)) (az:Option Addr) (aA:Nat) (ao:List Int) (aE:Option Addr) (aG:Nat) (am:List (S97)) (r:Bool) (w:World) (hr0:Kd.C (Kd.int .i64) w A0 l0.length l0) (hc0:l0.length≤c0) (hr1_0:Kd.C (Kd.int .i64) w aw ag.length ag) (hc1_0:ag.length≤ax) (hr1_1:Kd.C k97 w aC an.length an) (hc1_1:an.length≤aD) (aW:Kd.C (Kd.int .i64) w az ao.length ao) (aX:ao.length≤aA) (aY:Kd.C k97 w aE am.length am) (aZ:am.length≤aG) (h:impl_isMap.f k l0 ag an ao am=some r) :
  Calls Try.prog 151 #[.slice A0 l0.length c0,.agg #[.slice aw ag.length ax,.slice aC an.length aD],.agg #[.slice az ao.length aA,.slice aE am.length aG]] w fun e w'=>e=.returned (.bool r)∧Below w.heap.size w w':=by
 have bz:=Try.underlying32;have bm:=qK hr0;have bn:=qK hc0;clear hr0 hc0;have aU:=qK hr1_0;have aV:=qK hc1_0;clear hr1_0 hc1_0;have bd:=qK hr1_1;have be:=qK hc1_1;clear hr1_1 hc1_1;have ba:=qK aW;have bb:=qK aX;clear aW aX;have bf:=qK aY;have bg:=qK aZ;clear aY aZ;have HB:=qK (Below.refl w.heap.size w);have H:((impl_mapped.f k l0 ao).bind fun ay=>((slices_Equal_int_int.f k ay ag).bind fun aH=>(if aH=true then ((areAll_impl_isMap_1.f k am ag an l0).bind fun av=>(some av)) else (some false))))=some r:=h;clear h;replace H:=Option.bind_eq_some_iff.mp H;obtain ⟨ay,bv,H⟩:=H;replace H:((slices_Equal_int_int.f k ay ag).bind fun aH=>(if aH=true then ((areAll_impl_isMap_1.f k am ag an l0).bind fun av=>(some av)) else (some false)))=some r:=H;have A4:=qK bv;clear bv;replace H:=Option.bind_eq_some_iff.mp H;obtain ⟨aH,bw,H⟩:=H;replace H:(if aH=true then ((areAll_impl_isMap_1.f k am ag an l0).bind fun av=>(some av)) else (some false))=some r:=H;have A5:=qK bw;clear bw;by_cases c6:aH=true
 ·subst c6;have H1:((areAll_impl_isMap_1.f k am ag an l0).bind fun av=>(some av))=some r:=by rw [if_pos rfl] at H;exact H
  clear H;have H:=H1;clear H1;replace H:=Option.bind_eq_some_iff.mp H;obtain ⟨av,bx,H⟩:=H;replace H:(some av)=some r:=H;have A7:=qK bx;clear bx;obtain rfl:=Option.some.inj H;go_enter Try.func151,Try.ntmps151
  try go_wp2_with (first|((with_reducible refine gate_dst (N:=3) rfl ?_);refine box_event ?hg (N:=3) ?hd (cs:=#[.slice A0 l0.length c0]) (t:=22) ?hr ?_;(case hd=>rfl);(case hg=>rfl);(case hr=>(go_simp;try rfl));intro ad hg w8 hbox hb;have aj:=qK (qT HB.out hb);have ak:=qK (hbox);have ah:=qK ((by rw [hg];exact (qZ HB.out):w.heap.size≤ad));have ai:=ah;clear HB;have HB:=aj;have aa:=ak;have bh:=ah;have ap:=ai;clear aj ak ah ai;clear hb hbox hg)|((with_reducible refine gate_dst (N:=4) rfl ?_);refine box_event ?hg (N:=4) ?hd (cs:=#[.slice aw ag.length ax,.slice aC an.length aD]) (t:=32) ?hr ?_;(case hd=>rfl);(case hg=>rfl);(case hr=>(go_simp;try rfl));intro ae hg w9 hbox hb;have aj:=qK (qB (g:=ad) (o:=_) aa.out hb);have ak:=qK (qT HB.out hb);have ah:=qK (hbox);have ai:=qK ((by rw [hg];exact (qZ HB.out):w.heap.size≤ae));have au:=ai;have aI:=qK ((by rw [hg];exact Nat.ne_of_lt (blk_lt (g:=ad) (o:=_) aa.out):ad ≠ ae));have aJ:=qK aI.out.symm;clear aa HB;have aa:=aj;have HB:=ak;have ab:=ah;have bi:=ai;have aq:=au;have aK:=aI;have aM:=aJ;clear aj ak ah ai au aI aJ;clear hb hbox hg)|((with_reducible refine gate_dst (N:=5) rfl ?_);refine box_event ?hg (N:=5) ?hd (cs:=#[.slice az ao.length aA,.slice aE am.length aG]) (t:=32) ?hr ?_;(case hd=>rfl);(case hg=>rfl);(case hr=>(go_simp;try rfl));intro af hg bA hbox hb;have aj:=qK (qB (g:=ad) (o:=_) aa.out hb);have ak:=qK (qB (g:=ae) (o:=_) ab.out hb);have ah:=qK (qT HB.out hb);have ai:=qK (hbox);have au:=qK ((by rw [hg];exact (qZ HB.out):w.heap.size≤af));have aI:=au;have aJ:=qK ((by rw [hg];exact Nat.ne_of_lt (blk_lt (g:=ad) (o:=_) aa.out):ad ≠ af));have bj:=qK aJ.out.symm;have bc:=qK ((by rw [hg];exact Nat.ne_of_lt (blk_lt (g:=ae) (o:=_) ab.out):ae ≠ af));have bk:=qK bc.out.symm;clear aa ab HB;have aa:=aj;have ab:=ak;have HB:=ah;have ac:=ai;have bl:=au;have ar:=aI;have aN:=aJ;have aQ:=bj;have aR:=bc;have aT:=bk;clear aj ak ah ai au aI aJ bj bc bk;clear hb hbox hg))
  have aj:=qK (qW aa.out);have ak:=qK (qW ab.out);have ah:=qK (qW ac.out);have ai:=qK (qO HB.out);clear aa ab ac HB;have aa:=aj;have ab:=ak;have ac:=ah;have HB:=ai;clear aj ak ah ai;refine start_ (n:=14) (S:=fun w'=>w'.cell? ⟨ad,0,none⟩=some (.slice A0 l0.length c0)∧w'.cell? ⟨af,0,none⟩=some (.slice az ao.length aA)∧w'.cell? ⟨af,1,none⟩=some (.slice aE am.length aG)∧w'.cell? ⟨ae,0,none⟩=some (.slice aw ag.length ax)∧w'.cell? ⟨ae,1,none⟩=some (.slice aC an.length aD)) (ds:=[]) #[Z,Z,Z,Z,Z,Z,Z,Z,Z,Z,Z,Z,Z,Z] (by kernel_rfl) rfl rfl ⟨(qC aa.out 0).trans rfl,(qC ac.out 0).trans rfl,(qC ac.out 1).trans rfl,(qC ab.out 0).trans rfl,(qC ab.out 1).trans rfl⟩ (fun hHeld=>?_);refine with_tabW impl_isMap.tab1 impl_isMap.bits1 (fun HT_ HW_=>?_);generalize bA.drew=w11 at aa ab ac HB hHeld ⊢
  refine pure_ (i:=1) (N:=some 8) (v:=?_) (a':=?_) #[Z,Y,Z,Z,Z,Z,Z,Z,Z,Z,Z,Z,Z,Z] rfl rfl (any_of HT_.out (by kernel_rfl)) (fun _ _ _ h=>h) (Or.inl ⟨by rfl,?_⟩) ?_ ?_;rotate_left
  ·intro w';go_simp;with_reducible rfl
  rotate_left
  ·simp only [Act.put,sIb,sZ,sS,i64_w,i32_w];rfl
  refine pure_ (i:=4) (N:=some 11) (v:=?_) (a':=?_) #[Z,Y,Z,Z,Y,Z,Z,Z,Z,Z,Z,Z,Z,Z] rfl rfl (any_of HT_.out (by kernel_rfl)) (fun _ _ _ h=>h) (Or.inl ⟨by rfl,?_⟩) ?_ ?_;rotate_left
  ·intro w';go_simp;with_reducible rfl
  rotate_left
  ·simp only [Act.put,sIb,sZ,sS,i64_w,i32_w];rfl
  refine take_ (i:=0) (N:=some 7) (v:=?_) (a':=?_) #[Y,Y,Z,Z,Y,Z,Z,Z,Z,Z,Z,Z,Z,Z] rfl rfl (take_ofW HT_.out HW_.out (by kernel_rfl)) (fun _ _ _ h=>h) (Or.inl ⟨by rfl,?_⟩) hHeld ?_ ?_;rotate_left
  ·rintro w' ⟨s0,s1,s2,s3,s4⟩;go_simp;with_reducible rfl
  rotate_left
  ·simp only [Act.put,sIb,sZ,sS,i64_w,i32_w];rfl
  refine take_ (i:=2) (N:=some 9) (v:=?_) (a':=?_) #[Y,Y,Y,Z,Y,Z,Z,Z,Z,Z,Z,Z,Z,Z] rfl rfl (take_ofW HT_.out HW_.out (by kernel_rfl)) (fun _ _ _ h=>h) (Or.inl ⟨by rfl,?_⟩) hHeld ?_ ?_;rotate_left
  ·rintro w' ⟨s0,s1,s2,s3,s4⟩;go_simp;with_reducible rfl
  rotate_left
  ·simp only [Act.put,sIb,sZ,sS,i64_w,i32_w];rfl
  refine take_ (i:=5) (N:=some 12) (v:=?_) (a':=?_) #[Y,Y,Y,Z,Y,Y,Z,Z,Z,Z,Z,Z,Z,Z] rfl rfl (take_ofW HT_.out HW_.out (by kernel_rfl)) (fun _ _ _ h=>h) (Or.inl ⟨by rfl,?_⟩) hHeld ?_ ?_;rotate_left
  ·rintro w' ⟨s0,s1,s2,s3,s4⟩;go_simp;with_reducible rfl
  rotate_left
  ·simp only [Act.put,sIb,sZ,sS,i64_w,i32_w];rfl
  refine one_ (i:=3) (N:=some 10) #[Y,Y,Y,Y,Y,Y,Z,Z,Z,Z,Z,Z,Z,Z] rfl rfl (one_of HT_.out (by kernel_rfl)) (by decide) (fun K hK=>?_);refine goes_ Try.func186 (by kernel_rfl) rfl #[.slice A0 l0.length c0,.slice az ao.length aA] (by rfl) rfl rfl (by (try simp only [mT,mC,mN]);first|done|rfl|(simp only [lD,lT];rfl)) ?_;with_reducible refine (impl_mapped.calls k _ _ l0 _ _ ao ay _ ?side1 ?side2 ?side3 ?side4 A4.out).mono ?_
  (case side1=>exact (cB bm.out HB.out));(case side2=>exact bn.out);(case side3=>exact (cB ba.out HB.out));(case side4=>exact bb.out);rintro e bC ⟨bo,rfl,ho0,hb⟩;refine ⟨_,rfl,?_⟩;have aj:=qK (Kd.R_lower ho0 (qZ HB.out));have ak:=qK (qB (g:=ad) (o:=_) aa.out hb);have ah:=qK (qB (g:=ae) (o:=_) ab.out hb);have ai:=qK (qB (g:=af) (o:=_) ac.out hb);have au:=qK (qT HB.out hb);clear aa ab ac HB;have al:=aj;have aa:=ak;have ab:=ah;have ac:=ai;have HB:=au;clear aj ak ah ai au;(try clear hb);(try clear ho0);obtain ⟨bp,bq,br⟩:=Kd.R_slice al.out;subst br;refine hK.out _ _ ⟨(qC aa.out 0).trans rfl,(qC ac.out 0).trans rfl,(qC ac.out 1).trans rfl,(qC ab.out 0).trans rfl,(qC ab.out 1).trans rfl⟩ (fun hHeld=>?_);clear hK K;refine norm_ (a':=?_) ?_ ?_;rotate_left
  ·show Act.put _ (some 10) _=_
   simp only [Act.put,sIb,sZ,sS,i64_w,i32_w];rfl
  refine one_ (i:=6) (N:=some 13) #[Y,Y,Y,Y,Y,Y,Y,Z,Z,Z,Z,Z,Z,Z] rfl rfl (one_of HT_.out (by kernel_rfl)) (by decide) (fun K hK=>?_);refine goes_ Try.func185 (by kernel_rfl) rfl #[.slice bp ay.length bq,.slice aw ag.length ax] (by rfl) rfl rfl (by (try simp only [mT,mC,mN]);first|done|rfl|(simp only [lD,lT];rfl)) ?_;with_reducible refine (slices_Equal_int_int.calls k _ _ ay _ _ ag true _ ?side1 ?side2 ?side3 ?side4 A5.out).mono ?_
  (case side1=>exact (Kd.R_reads' al.out).2.2);(case side2=>exact (Kd.R_reads' al.out).2.1);(case side3=>exact (cB aU.out HB.out));(case side4=>exact aV.out);rintro e w' ⟨rfl,⟨nd,rfl⟩⟩;refine ⟨_,rfl,?_⟩;refine hK.out _ _ ⟨(qC aa.out 0).trans rfl,(qC ac.out 0).trans rfl,(qC ac.out 1).trans rfl,(qC ab.out 0).trans rfl,(qC ab.out 1).trans rfl⟩ (fun hHeld=>?_);clear hK K;refine norm_ (a':=?_) ?_ ?_;rotate_left
  ·show Act.put _ (some 13) _=_
   simp only [Act.put,sIb,sZ,sS,i64_w,i32_w];rfl
  refine pure_ (i:=7) (N:=some 14) (v:=?_) (a':=?_) #[Y,Y,Y,Y,Y,Y,Y,Y,Z,Z,Z,Z,Z,Z] rfl rfl (any_of HT_.out (by kernel_rfl)) (fun _ _ _ h=>h) (Or.inl ⟨by rfl,?_⟩) ?_ ?_;rotate_left
  ·intro w';go_simp;with_reducible rfl
  rotate_left
  ·simp only [Act.put,sIb,sZ,sS,i64_w,i32_w];rfl
  refine pure_ (i:=8) (N:=some 15) (v:=?_) (a':=?_) #[Y,Y,Y,Y,Y,Y,Y,Y,Y,Z,Z,Z,Z,Z] rfl rfl (any_of HT_.out (by kernel_rfl)) (fun _ _ _ h=>h) (Or.inl ⟨by rfl,?_⟩) ?_ ?_;rotate_left
  ·intro w';go_simp;with_reducible rfl
  rotate_left
  ·simp only [Act.put,sIb,sZ,sS,i64_w,i32_w];rfl
  refine pure_ (i:=10) (N:=some 17) (v:=?_) (a':=?_) #[Y,Y,Y,Y,Y,Y,Y,Y,Y,Z,Y,Z,Z,Z] rfl rfl (any_of HT_.out (by kernel_rfl)) (fun _ _ _ h=>h) (Or.inl ⟨by rfl,?_⟩) ?_ ?_;rotate_left
  ·intro w';go_simp;with_reducible rfl
  rotate_left
  ·simp only [Act.put,sIb,sZ,sS,i64_w,i32_w];rfl
  refine take_ (i:=9) (N:=some 16) (v:=?_) (a':=?_) #[Y,Y,Y,Y,Y,Y,Y,Y,Y,Y,Y,Z,Z,Z] rfl rfl (take_ofW HT_.out HW_.out (by kernel_rfl)) (fun _ _ _ h=>h) (Or.inl ⟨by rfl,?_⟩) hHeld ?_ ?_;rotate_left
  ·rintro w' ⟨s0,s1,s2,s3,s4⟩;go_simp;with_reducible rfl
  rotate_left
  ·simp only [Act.put,sIb,sZ,sS,i64_w,i32_w];rfl
  refine one_ (i:=11) (N:=some 18) #[Y,Y,Y,Y,Y,Y,Y,Y,Y,Y,Y,Y,Z,Z] rfl rfl (one_of HT_.out (by kernel_rfl)) (by decide) (fun K hK=>?_);refine goes_ Try.func120 (by kernel_rfl) rfl #[.slice aE am.length aG,.func (.func 187) #[] #[.pointer (some ⟨ae,0,none⟩),.pointer (some ⟨ad,0,none⟩)]] (by rfl) rfl rfl (by (try simp only [mT,mC,mN]);first|done|rfl|(simp only [lD,lT];rfl)) ?_;with_reducible refine (areAll_impl_isMap_1.calls k _ _ am ae aw ax ag aC aD an ad A0 c0 l0 av _ ?side1 ?side2 ?side3 ?side4 ?side5 ?side6 ?side7 ?side8 ?side9 ?side10 A7.out).mono ?_
  (case side1=>exact (cB bf.out (by repeat (with_reducible first|exact HB.out|apply qA|apply qD|apply qO|refine qS ?_ ap.out|refine qS ?_ aq.out|refine qS ?_ ar.out))));(case side2=>exact bg.out);(case side3=>exact (cB aU.out (by repeat (with_reducible first|exact HB.out|apply qA|apply qD|apply qO|refine qS ?_ ap.out|refine qS ?_ aq.out|refine qS ?_ ar.out))));(case side4=>exact aV.out);(case side5=>exact (cB bd.out (by repeat (with_reducible first|exact HB.out|apply qA|apply qD|apply qO|refine qS ?_ ap.out|refine qS ?_ aq.out|refine qS ?_ ar.out))));(case side6=>exact be.out);(case side7=>exact (by exact ab.out));(case side8=>exact (cB bm.out (by repeat (with_reducible first|exact HB.out|apply qA|apply qD|apply qO|refine qS ?_ ap.out|refine qS ?_ aq.out|refine qS ?_ ar.out))));(case side9=>exact bn.out);(case side10=>exact (by exact aa.out));rintro e bD ⟨rfl,hb⟩;refine ⟨_,rfl,?_⟩;have aj:=qK (rB (by exact al.out) hb);have ak:=qK (qB (g:=ad) (o:=_) (by exact aa.out) hb);have ah:=qK (qB (g:=ae) (o:=_) (by exact ab.out) hb);have ai:=qK (qB (g:=af) (o:=_) (by exact ac.out) hb);have au:=qK (qT (by repeat (with_reducible first|exact HB.out|apply qA|apply qD|apply qO|refine qS ?_ ap.out|refine qS ?_ aq.out|refine qS ?_ ar.out)) hb);clear al aa ab ac HB;have al:=aj;have aa:=ak;have ab:=ah;have ac:=ai;have HB:=au;clear aj ak ah ai au;(try clear hb);refine hK.out _ _ ⟨(qC aa.out 0).trans rfl,(qC ac.out 0).trans rfl,(qC ac.out 1).trans rfl,(qC ab.out 0).trans rfl,(qC ab.out 1).trans rfl⟩ (fun hHeld=>?_);clear hK K;refine norm_ (a':=?_) ?_ ?_;rotate_left
  ·show Act.put _ (some 18) _=_
   simp only [Act.put,sIb,sZ,sS,i64_w,i32_w];rfl
  refine pure_ (i:=12) (N:=some 19) (v:=?_) (a':=?_) #[Y,Y,Y,Y,Y,Y,Y,Y,Y,Y,Y,Y,Y,Z] rfl rfl (any_of HT_.out (by kernel_rfl)) (fun _ _ _ h=>h) (Or.inl ⟨by rfl,?_⟩) ?_ ?_;rotate_left
  ·intro w';go_simp;with_reducible rfl
  rotate_left
  ·simp only [Act.put,sIb,sZ,sS,i64_w,i32_w];rfl
  refine pure_ (i:=13) (N:=some 6) (v:=?_) (a':=?_) #[Y,Y,Y,Y,Y,Y,Y,Y,Y,Y,Y,Y,Y,Y] rfl rfl (any_of HT_.out (by kernel_rfl)) (fun _ _ _ h=>h) (Or.inl ⟨by rfl,?_⟩) ?_ ?_;rotate_left
  ·intro w';go_simp;with_reducible rfl
  rotate_left
  ·simp only [Act.put,sIb,sZ,sS,i64_w,i32_w];rfl
  refine done_ (done_of HT_.out (by kernel_rfl)) ?_;try go_wp2
  go_ret
  exact ⟨by rfl,HB.out⟩
 ·replace c6:=Bool.eq_false_iff.mpr c6;subst c6;have H1:(some false)=some r:=by rw [if_neg (show ¬ (false=true) by decide)] at H;exact H
  clear H;have H:=H1;clear H1;obtain rfl:=Option.some.inj H;go_enter Try.func151,Try.ntmps151
  try go_wp2_with (first|((with_reducible refine gate_dst (N:=3) rfl ?_);refine box_event ?hg (N:=3) ?hd (cs:=#[.slice A0 l0.length c0]) (t:=22) ?hr ?_;(case hd=>rfl);(case hg=>rfl);(case hr=>(go_simp;try rfl));intro ad hg bE hbox hb;have aj:=qK (qT HB.out hb);have ak:=qK (hbox);have ah:=qK ((by rw [hg];exact (qZ HB.out):w.heap.size≤ad));have ai:=ah;clear HB;have HB:=aj;have aa:=ak;have bh:=ah;have ap:=ai;clear aj ak ah ai;clear hb hbox hg)|((with_reducible refine gate_dst (N:=4) rfl ?_);refine box_event ?hg (N:=4) ?hd (cs:=#[.slice aw ag.length ax,.slice aC an.length aD]) (t:=32) ?hr ?_;(case hd=>rfl);(case hg=>rfl);(case hr=>(go_simp;try rfl));intro ae hg bF hbox hb;have aj:=qK (qB (g:=ad) (o:=_) aa.out hb);have ak:=qK (qT HB.out hb);have ah:=qK (hbox);have ai:=qK ((by rw [hg];exact (qZ HB.out):w.heap.size≤ae));have au:=ai;have aI:=qK ((by rw [hg];exact Nat.ne_of_lt (blk_lt (g:=ad) (o:=_) aa.out):ad ≠ ae));have aJ:=qK aI.out.symm;clear aa HB;have aa:=aj;have HB:=ak;have ab:=ah;have bi:=ai;have aq:=au;have aK:=aI;have aM:=aJ;clear aj ak ah ai au aI aJ;clear hb hbox hg)|((with_reducible refine gate_dst (N:=5) rfl ?_);refine box_event ?hg (N:=5) ?hd (cs:=#[.slice az ao.length aA,.slice aE am.length aG]) (t:=32) ?hr ?_;(case hd=>rfl);(case hg=>rfl);(case hr=>(go_simp;try rfl));intro af hg bB hbox hb;have aj:=qK (qB (g:=ad) (o:=_) aa.out hb);have ak:=qK (qB (g:=ae) (o:=_) ab.out hb);have ah:=qK (qT HB.out hb);have ai:=qK (hbox);have au:=qK ((by rw [hg];exact (qZ HB.out):w.heap.size≤af));have aI:=au;have aJ:=qK ((by rw [hg];exact Nat.ne_of_lt (blk_lt (g:=ad) (o:=_) aa.out):ad ≠ af));have bj:=qK aJ.out.symm;have bc:=qK ((by rw [hg];exact Nat.ne_of_lt (blk_lt (g:=ae) (o:=_) ab.out):ae ≠ af));have bk:=qK bc.out.symm;clear aa ab HB;have aa:=aj;have ab:=ak;have HB:=ah;have ac:=ai;have bl:=au;have ar:=aI;have aN:=aJ;have aQ:=bj;have aR:=bc;have aT:=bk;clear aj ak ah ai au aI aJ bj bc bk;clear hb hbox hg))
  have aj:=qK (qW aa.out);have ak:=qK (qW ab.out);have ah:=qK (qW ac.out);have ai:=qK (qO HB.out);clear aa ab ac HB;have aa:=aj;have ab:=ak;have ac:=ah;have HB:=ai;clear aj ak ah ai;refine start_ (n:=14) (S:=fun w'=>w'.cell? ⟨ad,0,none⟩=some (.slice A0 l0.length c0)∧w'.cell? ⟨af,0,none⟩=some (.slice az ao.length aA)∧w'.cell? ⟨af,1,none⟩=some (.slice aE am.length aG)∧w'.cell? ⟨ae,0,none⟩=some (.slice aw ag.length ax)∧w'.cell? ⟨ae,1,none⟩=some (.slice aC an.length aD)) (ds:=[]) #[Z,Z,Z,Z,Z,Z,Z,Z,Z,Z,Z,Z,Z,Z] (by kernel_rfl) rfl rfl ⟨(qC aa.out 0).trans rfl,(qC ac.out 0).trans rfl,(qC ac.out 1).trans rfl,(qC ab.out 0).trans rfl,(qC ab.out 1).trans rfl⟩ (fun hHeld=>?_);refine with_tabW impl_isMap.tab1 impl_isMap.bits1 (fun HT_ HW_=>?_);generalize bB.drew=w18 at aa ab ac HB hHeld ⊢
  refine pure_ (i:=1) (N:=some 8) (v:=?_) (a':=?_) #[Z,Y,Z,Z,Z,Z,Z,Z,Z,Z,Z,Z,Z,Z] rfl rfl (any_of HT_.out (by kernel_rfl)) (fun _ _ _ h=>h) (Or.inl ⟨by rfl,?_⟩) ?_ ?_;rotate_left
  ·intro w';go_simp;with_reducible rfl
  rotate_left
  ·simp only [Act.put,sIb,sZ,sS,i64_w,i32_w];rfl
  refine pure_ (i:=4) (N:=some 11) (v:=?_) (a':=?_) #[Z,Y,Z,Z,Y,Z,Z,Z,Z,Z,Z,Z,Z,Z] rfl rfl (any_of HT_.out (by kernel_rfl)) (fun _ _ _ h=>h) (Or.inl ⟨by rfl,?_⟩) ?_ ?_;rotate_left
  ·intro w';go_simp;with_reducible rfl
  rotate_left
  ·simp only [Act.put,sIb,sZ,sS,i64_w,i32_w];rfl
  refine take_ (i:=0) (N:=some 7) (v:=?_) (a':=?_) #[Y,Y,Z,Z,Y,Z,Z,Z,Z,Z,Z,Z,Z,Z] rfl rfl (take_ofW HT_.out HW_.out (by kernel_rfl)) (fun _ _ _ h=>h) (Or.inl ⟨by rfl,?_⟩) hHeld ?_ ?_;rotate_left
  ·rintro w' ⟨s0,s1,s2,s3,s4⟩;go_simp;with_reducible rfl
  rotate_left
  ·simp only [Act.put,sIb,sZ,sS,i64_w,i32_w];rfl
  refine take_ (i:=2) (N:=some 9) (v:=?_) (a':=?_) #[Y,Y,Y,Z,Y,Z,Z,Z,Z,Z,Z,Z,Z,Z] rfl rfl (take_ofW HT_.out HW_.out (by kernel_rfl)) (fun _ _ _ h=>h) (Or.inl ⟨by rfl,?_⟩) hHeld ?_ ?_;rotate_left
  ·rintro w' ⟨s0,s1,s2,s3,s4⟩;go_simp;with_reducible rfl
  rotate_left
  ·simp only [Act.put,sIb,sZ,sS,i64_w,i32_w];rfl
  refine take_ (i:=5) (N:=some 12) (v:=?_) (a':=?_) #[Y,Y,Y,Z,Y,Y,Z,Z,Z,Z,Z,Z,Z,Z] rfl rfl (take_ofW HT_.out HW_.out (by kernel_rfl)) (fun _ _ _ h=>h) (Or.inl ⟨by rfl,?_⟩) hHeld ?_ ?_;rotate_left
  ·rintro w' ⟨s0,s1,s2,s3,s4⟩;go_simp;with_reducible rfl
  rotate_left
  ·simp only [Act.put,sIb,sZ,sS,i64_w,i32_w];rfl
  refine one_ (i:=3) (N:=some 10) #[Y,Y,Y,Y,Y,Y,Z,Z,Z,Z,Z,Z,Z,Z] rfl rfl (one_of HT_.out (by kernel_rfl)) (by decide) (fun K hK=>?_);refine goes_ Try.func186 (by kernel_rfl) rfl #[.slice A0 l0.length c0,.slice az ao.length aA] (by rfl) rfl rfl (by (try simp only [mT,mC,mN]);first|done|rfl|(simp only [lD,lT];rfl)) ?_;with_reducible refine (impl_mapped.calls k _ _ l0 _ _ ao ay _ ?side1 ?side2 ?side3 ?side4 A4.out).mono ?_
  (case side1=>exact (cB bm.out HB.out));(case side2=>exact bn.out);(case side3=>exact (cB ba.out HB.out));(case side4=>exact bb.out);rintro e bG ⟨bo,rfl,ho0,hb⟩;refine ⟨_,rfl,?_⟩;have aj:=qK (Kd.R_lower ho0 (qZ HB.out));have ak:=qK (qB (g:=ad) (o:=_) aa.out hb);have ah:=qK (qB (g:=ae) (o:=_) ab.out hb);have ai:=qK (qB (g:=af) (o:=_) ac.out hb);have au:=qK (qT HB.out hb);clear aa ab ac HB;have al:=aj;have aa:=ak;have ab:=ah;have ac:=ai;have HB:=au;clear aj ak ah ai au;(try clear hb);(try clear ho0);obtain ⟨bs,bt,bu⟩:=Kd.R_slice al.out;subst bu;refine hK.out _ _ ⟨(qC aa.out 0).trans rfl,(qC ac.out 0).trans rfl,(qC ac.out 1).trans rfl,(qC ab.out 0).trans rfl,(qC ab.out 1).trans rfl⟩ (fun hHeld=>?_);clear hK K;refine norm_ (a':=?_) ?_ ?_;rotate_left
  ·show Act.put _ (some 10) _=_
   simp only [Act.put,sIb,sZ,sS,i64_w,i32_w];rfl
  refine one_ (i:=6) (N:=some 13) #[Y,Y,Y,Y,Y,Y,Y,Z,Z,Z,Z,Z,Z,Z] rfl rfl (one_of HT_.out (by kernel_rfl)) (by decide) (fun K hK=>?_);refine goes_ Try.func185 (by kernel_rfl) rfl #[.slice bs ay.length bt,.slice aw ag.length ax] (by rfl) rfl rfl (by (try simp only [mT,mC,mN]);first|done|rfl|(simp only [lD,lT];rfl)) ?_;with_reducible refine (slices_Equal_int_int.calls k _ _ ay _ _ ag false _ ?side1 ?side2 ?side3 ?side4 A5.out).mono ?_
  (case side1=>exact (Kd.R_reads' al.out).2.2);(case side2=>exact (Kd.R_reads' al.out).2.1);(case side3=>exact (cB aU.out HB.out));(case side4=>exact aV.out);rintro e w' ⟨rfl,⟨nd,rfl⟩⟩;refine ⟨_,rfl,?_⟩;refine hK.out _ _ ⟨(qC aa.out 0).trans rfl,(qC ac.out 0).trans rfl,(qC ac.out 1).trans rfl,(qC ab.out 0).trans rfl,(qC ab.out 1).trans rfl⟩ (fun hHeld=>?_);clear hK K;refine norm_ (a':=?_) ?_ ?_;rotate_left
  ·show Act.put _ (some 13) _=_
   simp only [Act.put,sIb,sZ,sS,i64_w,i32_w];rfl
  refine pure_ (i:=7) (N:=some 14) (v:=?_) (a':=?_) #[Y,Y,Y,Y,Y,Y,Y,Y,Z,Z,Z,Z,Z,Z] rfl rfl (any_of HT_.out (by kernel_rfl)) (fun _ _ _ h=>h) (Or.inl ⟨by rfl,?_⟩) ?_ ?_;rotate_left
  ·intro w';go_simp;with_reducible rfl
  rotate_left
  ·simp only [Act.put,sIb,sZ,sS,i64_w,i32_w];rfl
  refine pure_ (i:=8) (N:=some 15) (v:=undef) (a':=?_) #[Y,Y,Y,Y,Y,Y,Y,Y,Y,Z,Z,Z,Z,Z] rfl rfl (any_of HT_.out (by kernel_rfl)) (fun _ _ _ h=>h) (Or.inr ⟨by rfl,rfl⟩) ?_ ?_;rotate_left
  ·simp only [Act.put,sIb,sZ,sS,i64_w,i32_w];rfl
  refine pure_ (i:=9) (N:=some 16) (v:=undef) (a':=?_) #[Y,Y,Y,Y,Y,Y,Y,Y,Y,Y,Z,Z,Z,Z] rfl rfl (any_of HT_.out (by kernel_rfl)) (fun _ _ _ h=>h) (Or.inr ⟨by rfl,rfl⟩) ?_ ?_;rotate_left
  ·simp only [Act.put,sIb,sZ,sS,i64_w,i32_w];rfl
  refine pure_ (i:=10) (N:=some 17) (v:=undef) (a':=?_) #[Y,Y,Y,Y,Y,Y,Y,Y,Y,Y,Y,Z,Z,Z] rfl rfl (any_of HT_.out (by kernel_rfl)) (fun _ _ _ h=>h) (Or.inr ⟨by rfl,rfl⟩) ?_ ?_;rotate_left
  ·simp only [Act.put,sIb,sZ,sS,i64_w,i32_w];rfl
  refine pure_ (i:=11) (N:=some 18) (v:=undef) (a':=?_) #[Y,Y,Y,Y,Y,Y,Y,Y,Y,Y,Y,Y,Z,Z] rfl rfl (any_of HT_.out (by kernel_rfl)) (fun _ _ _ h=>h) (Or.inr ⟨by rfl,rfl⟩) ?_ ?_;rotate_left
  ·simp only [Act.put,sIb,sZ,sS,i64_w,i32_w];rfl
  refine pure_ (i:=12) (N:=some 19) (v:=?_) (a':=?_) #[Y,Y,Y,Y,Y,Y,Y,Y,Y,Y,Y,Y,Y,Z] rfl rfl (any_of HT_.out (by kernel_rfl)) (fun _ _ _ h=>h) (Or.inl ⟨by rfl,?_⟩) ?_ ?_;rotate_left
  ·intro w';go_simp;with_reducible rfl
  rotate_left
  ·simp only [Act.put,sIb,sZ,sS,i64_w,i32_w];rfl
  refine pure_ (i:=13) (N:=some 6) (v:=?_) (a':=?_) #[Y,Y,Y,Y,Y,Y,Y,Y,Y,Y,Y,Y,Y,Y] rfl rfl (any_of HT_.out (by kernel_rfl)) (fun _ _ _ h=>h) (Or.inl ⟨by rfl,?_⟩) ?_ ?_;rotate_left
  ·intro w';go_simp;with_reducible rfl
  rotate_left
  ·simp only [Act.put,sIb,sZ,sS,i64_w,i32_w];rfl
  refine done_ (done_of HT_.out (by kernel_rfl)) ?_;try go_wp2
  go_ret
  exact ⟨by rfl,by repeat (first|(with_reducible first|exact HB.out|apply qA|apply qD|apply qO|refine qS ?_ ap.out|refine qS ?_ aq.out|refine qS ?_ ar.out)|exact HB.out)⟩

end Go.Proofs.Ytboligpcbndkjaa.PFnExactCoreOf
