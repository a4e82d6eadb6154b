/-
  A text of this claim's own, printed by a program of the session (wip/tools/xprint.py): functions of the program as Lean functions, each with what its call comes to.
-/
import Derived.Test.YtboligpcbndkjaaPFnExactCoreOfx0
import Derived.Test.YtboligpcbndkjaaPFnExactCoreOfx1
namespace Go.Proofs.Ytboligpcbndkjaa.PFnExactCoreOf
open Go.Proofs.YtboligpcbndkjaaW.PrintWords renaming pw_below_drewN → qD, blk_cell → qC, below_drew1 → qO, below_alloc → qA, blk_frozen → qF, below_set → qS, blk_drewN → qN, blk_alloc → qL, blk_drew → qW, below_size → qZ, below_step → qT, blk_below → qB, blk_far → qR, blk_put → qP
open Go.Proofs.YtboligpcbndkjaaW.PrintWords.Aside0 renaming mk → qK
open Bool renaming true → Y, false → Z
open List renaming setIfInBounds_toArray → sIb, set_cons_zero → sZ, set_cons_succ → sS, map_toArray → mT, map_cons → mC, map_nil → mN, length_drop → lD, length_take → lT
open Go.Proofs.YtboligpcbndkjaaW.PrintWords.Kd renaming C_alloc → cL, C_drewN → cN, C_drew → cW, C_below → cB, R_alloc → rL, R_drewN → rN, R_drew → rW, R_below → rB
open Go.RowKit Go.Proofs.YtboligpcbndkjaaW.PrintWords Go.Proofs.YtboligpcbndkjaaW.PrintLast Go.Proofs.YtboligpcbndkjaaW.PrintMore
attribute [local go_sem] max2_int min2_int max_two min_two max_three min_three max_four min_four   -- for this text's walks alone
set_option linter.unusedVariables false
set_option linter.unusedSimpArgs false

/-! ### areAll_Int: function 106 -/
set_option maxHeartbeats 4000000 in
set_option maxRecDepth 100000 in
theorem areAll_Int.calls (A : Option Addr) (c : Nat) (l : List (Int)) (g : Nat) (lb : Array Value) (p : Int → Bool) (w : World) (eg : ∀ args w, (callFunc g args).run Try.prog w = .ok (.enter g args) w)
    (hr : Kd.C (Kd.int .i64) w A l.length l) (hp : PredOn Try.prog g lb (One (Kd.int .i64)) p l w) :
    Calls Try.prog 106 #[.slice A l.length c, .func (.func g) #[] lb] w fun e w' => e = .returned (.bool (l.all p)) ∧ Below w.heap.size w w' := by
  have aa : Below w.heap.size w (w.alloc (.cells #[.func (.func g) #[] lb] 134)) := below_alloc (Below.refl _ _) _
  have ab := areAll1_Int.pred w.heap.size l g lb p (w.alloc (.cells #[.func (.func g) #[] lb] 134)) eg (by simp) (hp.grown aa)
  have HR := Aside0.mk (Kd.C_below hr aa)
  have HP := Aside0.mk ab
  have ac := Aside0.mk aa
  clear hr hp ab aa
  obtain ⟨b, hb⟩ : ∃ b, b = l.any (fun x => !p x) := ⟨_, rfl⟩
  have hall : l.all p = !b := by rw [hb, List.all_eq_not_any_not]
  rw [hall]
  have ae := Aside0.mk hb
  clear hb hall
  have e1 := enters_of Try.func156 (by kernel_rfl) rfl
  cases b with
  | true =>
    go_enter Try.func106, Try.ntmps106
    go_wp2_with (go_at_call 155; refine (anyf_Int.calls A c l _ _ _ _ e1 HR.out HP.out).mono ?_; rw [← ae.out]; rintro e w' ⟨rfl, hb'⟩)
    go_ret
    exact ⟨rfl, below_step ac.out hb'⟩
  | false =>
    go_enter Try.func106, Try.ntmps106
    go_wp2_with (go_at_call 155; refine (anyf_Int.calls A c l _ _ _ _ e1 HR.out HP.out).mono ?_; rw [← ae.out]; rintro e w' ⟨rfl, hb'⟩)
    go_ret
    exact ⟨rfl, below_step ac.out hb'⟩

/-! ### idxf_Atom: function 193 -/
set_option maxHeartbeats 4000000 in
set_option maxRecDepth 100000 in
theorem idxf_Atom.calls (A : Option Addr) (c : Nat) (l : List (S97)) (g : Nat) (lb : Array Value) (p : S97 → Bool) (w : World) (eg : ∀ args w, (callFunc g args).run Try.prog w = .ok (.enter g args) w)
    (hr : Kd.C k97 w A l.length l) (hp : PredOn Try.prog g lb (Agg k97) p l w) :
    Calls Try.prog 193 #[.slice A l.length c, .func (.func g) #[] lb] w fun e w' => e = .returned (.int .i64 (idxf p l)) ∧ Below w.heap.size w w' := by
  have hl : l.length ≤ 9223372036854775807 := hr.2.1
  have HR := Aside0.mk hr
  clear hr
  have HP := Aside0.mk hp
  clear hp
  go_enter Try.func193, Try.ntmps193
  go_wp2
  go_loopg [5, 8] l.length (fun gg _ s8 wr => ∃ kk : Nat, kk ≤ l.length ∧ l.length - kk ≤ gg ∧ s8 = .int .i64 kk ∧ Aside0 (Below w.heap.size w wr) ∧ Aside0 (∀ j, (hj : j < l.length) → j < kk → p l[j] = false))
  case atStart => exact ⟨0, Nat.zero_le _, by omega, rfl, ⟨Below.refl _ w⟩, ⟨fun j hj h => absurd h (Nat.not_lt_zero _)⟩⟩
  case round =>
    obtain ⟨kk, hkk, hg, rfl, BW, AA⟩ := hrel
    by_cases hlt : kk < l.length
    · have hltz : (kk : Int) < (l.length : Int) := by omega
      have hmem : l[kk] ∈ l := List.getElem_mem hlt
      obtain ⟨ad, cs, e1, hlen, hK, hcell⟩ := Kd.C_get (Kd.C_below HR.out BW.out) l[kk] (kk : Int) (by omega) (by omega)
      cases e1
      have hrd : l.getD (kk : Int).toNat l[kk] = l[kk] := by simp [hlt]
      rw [hrd] at hK
      replace hlen : cs.length = 2 := hlen
      obtain ⟨aa, ab, rfl⟩ : ∃ aa ab : Value, cs = [aa, ab] := list_len2 hlen
      replace hcell : ∀ j u, ([aa, ab] : List Value)[j]? = some u → wr.cell? (ad.add ((kk : Int).toNat * 2 + j)) = some u := hcell
      have ae : wr.cell? (ad.add (kk * 2)) = some aa := by have := hcell 0 _ rfl; simpa using this
      have af : wr.cell? ⟨(ad.add (kk * 2)).block, (ad.add (kk * 2)).off + 1, none⟩ = some ab := by have := hcell 1 _ rfl; rw [show (kk : Int).toNat = kk from by simp] at this; rw [← add_field _ _ 1 (by omega)]; exact this
      have hcall := HP.out wr l[kk] (.agg #[aa, ab]) hmem BW.out ⟨_, rfl, hK⟩
      clear hcell hK hlen hmem hrd
      have AY : Aside0 (∃ y, y = l[kk]) := ⟨⟨_, rfl⟩⟩
      obtain ⟨⟨y, hy⟩⟩ := AY
      rw [← hy] at hcall
      have HY := Aside0.mk hy
      clear hy
      cases hq : p y with
      | true =>
        rw [hq] at hcall
        have HQ := Aside0.mk hq
        clear hq
        go_wp2_with (go_at_fn g; refine hcall.mono ?_; rintro e w' ⟨rfl, hb'⟩)
        go_ret
        refine ⟨?_, below_step BW.out hb'⟩
        rw [idxf_hit hlt (by rw [← HY.out]; exact HQ.out) (fun j hj => AA.out j (by omega) hj)]
        rfl
      | false =>
        rw [hq] at hcall
        have HQ := Aside0.mk hq
        clear hq
        go_wp2_with (go_at_fn g; refine hcall.mono ?_; rintro e w' ⟨rfl, hb'⟩)
        go_roundg (l.length - (kk + 1))
        case measure => omega
        case rel =>
          refine ⟨kk + 1, by omega, by omega, by go_num, ⟨below_step BW.out hb'⟩, ⟨fun j hj ac => ?_⟩⟩
          by_cases e : j = kk
          · subst e
            rw [← HY.out]; exact HQ.out
          · exact AA.out j hj (by omega)
    · have hltz : ¬ (kk : Int) < (l.length : Int) := by omega
      go_wp2
      go_ret
      refine ⟨?_, BW.out⟩
      rw [idxf_miss (fun j hj => AA.out j hj (by omega))]
      rfl

/-! ### anyf_Atom: function 163 -/
set_option maxHeartbeats 4000000 in
set_option maxRecDepth 100000 in
theorem anyf_Atom.calls (A : Option Addr) (c : Nat) (l : List (S97)) (g : Nat) (lb : Array Value) (p : S97 → Bool) (w : World) (eg : ∀ args w, (callFunc g args).run Try.prog w = .ok (.enter g args) w)
    (hr : Kd.C k97 w A l.length l) (hp : PredOn Try.prog g lb (Agg k97) p l w) :
    Calls Try.prog 163 #[.slice A l.length c, .func (.func g) #[] lb] w fun e w' => e = .returned (.bool (l.any p)) ∧ Below w.heap.size w w' := by
  rw [← idxf_any p l]
  have HR := Aside0.mk hr
  clear hr
  have HP := Aside0.mk hp
  clear hp
  obtain ⟨i, hi⟩ : ∃ i, i = idxf p l := ⟨_, rfl⟩
  rw [← hi]
  have HI := Aside0.mk hi
  clear hi
  go_enter Try.func163, Try.ntmps163
  go_wp2_with (go_at_call 193; refine (idxf_Atom.calls A c l g lb p _ eg HR.out HP.out).mono ?_; rw [← HI.out]; rintro e w' ⟨rfl, hb'⟩)
  go_ret
  exact ⟨rfl, hb'⟩

/-! ### areAll1_Atom: function 164 -/
set_option maxHeartbeats 4000000 in
set_option maxRecDepth 100000 in
theorem areAll1_Atom.pred (B : Nat) (l : List (S97)) (g : Nat) (lb : Array Value) (p : S97 → Bool) (w : World) (eg : ∀ args w, (callFunc g args).run Try.prog w = .ok (.enter g args) w)
    (hB : w.cell? ⟨B, 0, none⟩ = some (.func (.func g) #[] lb)) (hp : PredOn Try.prog g lb (Agg k97) p l w) :
    PredOn Try.prog 164 #[.pointer (some ⟨B, 0, none⟩)] (Agg k97) (fun x => !p x) l w := by
  intro W x v hx hW hv
  obtain ⟨cs, rfl, hK⟩ := hv
  have hlen : cs.length = 2 := Kd.K_len _ hK
  obtain ⟨c0_, c1_, rfl⟩ : ∃ c0_ c1_ : Value, cs = [c0_, c1_] := list_len2 hlen
  have hB' : W.cell? ⟨B, 0, none⟩ = some (.func (.func g) #[] lb) := pw_cell_below hW hB
  have HP := Aside0.mk hp
  clear hp hB
  obtain ⟨b, hb⟩ : ∃ b, b = p x := ⟨_, rfl⟩
  have hb0 := Aside0.mk hb
  have hK' := Kd.K_below _ (below_alloc (Below.refl W.heap.size W) (.cells #[c0_, c1_] 97)) hK
  have hgr := Aside0.mk (below_alloc (Below.refl W.heap.size W) (.cells #[c0_, c1_] 97))
  have HKK := Aside0.mk hK'
  have hB'' := pw_cell_below hgr.out hB'
  have HWW := Aside0.mk hW
  clear hK hK' hW
  show Calls Try.prog 164 #[.agg #[c0_, c1_], .pointer (some ⟨B, 0, none⟩)] W fun e W' => e = .returned (.bool (!p x)) ∧ Below W.heap.size W W'
  rw [← hb]
  clear hb
  cases b with
  | true =>
    go_enter Try.func164, Try.ntmps164
    go_wp2_with (go_at_fn g; refine (HP.out _ x _ hx (below_step HWW.out hgr.out) ⟨_, rfl, HKK.out⟩).mono ?_; rw [← hb0.out]; rintro e w' ⟨rfl, hb'⟩)
    go_ret
    exact ⟨rfl, below_step hgr.out hb'⟩
  | false =>
    go_enter Try.func164, Try.ntmps164
    go_wp2_with (go_at_fn g; refine (HP.out _ x _ hx (below_step HWW.out hgr.out) ⟨_, rfl, HKK.out⟩).mono ?_; rw [← hb0.out]; rintro e w' ⟨rfl, hb'⟩)
    go_ret
    exact ⟨rfl, below_step hgr.out hb'⟩

/-! ### areAll_Atom: function 120 -/
set_option maxHeartbeats 4000000 in
set_option maxRecDepth 100000 in
theorem areAll_Atom.calls (A : Option Addr) (c : Nat) (l : List (S97)) (g : Nat) (lb : Array Value) (p : S97 → Bool) (w : World) (eg : ∀ args w, (callFunc g args).run Try.prog w = .ok (.enter g args) w)
    (hr : Kd.C k97 w A l.length l) (hp : PredOn Try.prog g lb (Agg k97) p l w) :
    Calls Try.prog 120 #[.slice A l.length c, .func (.func g) #[] lb] w fun e w' => e = .returned (.bool (l.all p)) ∧ Below w.heap.size w w' := by
  have aa : Below w.heap.size w (w.alloc (.cells #[.func (.func g) #[] lb] 140)) := below_alloc (Below.refl _ _) _
  have ab := areAll1_Atom.pred w.heap.size l g lb p (w.alloc (.cells #[.func (.func g) #[] lb] 140)) eg (by simp) (hp.grown aa)
  have HR := Aside0.mk (Kd.C_below hr aa)
  have HP := Aside0.mk ab
  have ac := Aside0.mk aa
  clear hr hp ab aa
  obtain ⟨b, hb⟩ : ∃ b, b = l.any (fun x => !p x) := ⟨_, rfl⟩
  have hall : l.all p = !b := by rw [hb, List.all_eq_not_any_not]
  rw [hall]
  have ae := Aside0.mk hb
  clear hb hall
  have e1 := enters_of Try.func164 (by kernel_rfl) rfl
  cases b with
  | true =>
    go_enter Try.func120, Try.ntmps120
    go_wp2_with (go_at_call 163; refine (anyf_Atom.calls A c l _ _ _ _ e1 HR.out HP.out).mono ?_; rw [← ae.out]; rintro e w' ⟨rfl, hb'⟩)
    go_ret
    exact ⟨rfl, below_step ac.out hb'⟩
  | false =>
    go_enter Try.func120, Try.ntmps120
    go_wp2_with (go_at_call 163; refine (anyf_Atom.calls A c l _ _ _ _ e1 HR.out HP.out).mono ?_; rw [← ae.out]; rintro e w' ⟨rfl, hb'⟩)
    go_ret
    exact ⟨rfl, below_step ac.out hb'⟩

/-! ### impl_within: function 105 -/
def impl_within.f (a0:Int) (a1:Int) (a2:Int):Option (Bool):=if a1≤a0 then (some (decide (a0≤a2))) else (some false)
set_option maxHeartbeats 8000000 in
set_option maxRecDepth 100000 in
theorem impl_within.calls (a0:Int) (a1:Int) (a2:Int) (r:Bool) (w:World) (h:impl_within.f a0 a1 a2=some r) :
  Calls Try.prog 105 #[.int .i64 a0,.int .i64 a1,.int .i64 a2] w fun e w'=>e=.returned (.bool r)∧Drawn0 w w':=by
 have H:(if a1≤a0 then (some (decide (a0≤a2))) else (some false))=some r:=h;clear h;by_cases c4:a1≤a0
 ·rw [if_pos c4] at H;have aa:decide (a1≤a0)=true:=decide_eq_true c4;clear c4;obtain rfl:=Option.some.inj H;go_enter Try.func105,Try.ntmps105
  go_wp2
  go_ret
  exact ⟨by first|rfl|(simp;done)|(simp [*];done),by repeat (first|exact Drawn0.refl _|apply Drawn0.step)⟩
 ·rw [if_neg c4] at H;have aa:decide (a1≤a0)=false:=decide_eq_false c4;clear c4;obtain rfl:=Option.some.inj H;go_enter Try.func105,Try.ntmps105
  go_wp2
  go_ret
  exact ⟨by first|rfl|(simp;done)|(simp [*];done),by repeat (first|exact Drawn0.refl _|apply Drawn0.step)⟩

/-! ### impl_isVar: function 122 -/
def impl_isVar.f (a0:Int):Option (Bool):=(impl_within.f a0 0 5).bind fun t150=>(some t150)
set_option maxHeartbeats 8000000 in
set_option maxRecDepth 100000 in
theorem impl_isVar.calls (a0:Int) (r:Bool) (w:World) (h:impl_isVar.f a0=some r) :
  Calls Try.prog 122 #[.int .i64 a0] w fun e w'=>e=.returned (.bool r)∧Drawn0 w w':=by
 have H:((impl_within.f a0 0 5).bind fun aa=>(some aa))=some r:=h;clear h;replace H:=Option.bind_eq_some_iff.mp H;obtain ⟨aa,ab,H⟩:=H;replace H:(some aa)=some r:=H;have A2:=qK ab;clear ab;obtain rfl:=Option.some.inj H;go_enter Try.func122,Try.ntmps122
 go_wp2_with (first|((with_reducible refine gate_callee (f:=105) rfl ?_);refine goesL_ (some 4) rfl rfl Try.func105 (by kernel_rfl) rfl #[.int .i64 a0,.int .i64 0,.int .i64 5] rfl (by (try simp only [mT,mC,mN]);first|done|rfl|(simp only [lD,lT];rfl)) ?_;(with_reducible refine (impl_within.calls a0 0 5 aa _ A2.out).mono ?_);rintro e w' ⟨rfl,⟨nd,rfl⟩⟩;refine ⟨_,rfl,?_⟩))
 go_ret
 exact ⟨by first|rfl|(simp;done)|(simp [*];done),by repeat (first|exact Drawn0.refl _|apply Drawn0.step)⟩

/-! ### areAll_impl_isVar: function 106, handed function 122 -/
def areAll_impl_isVar.f (l : List Int) : Option Bool := if l.all (fun d => (impl_isVar.f d).isSome) = true then some (l.all (fun d => (impl_isVar.f d).getD false)) else none
theorem areAll_impl_isVar.calls (A : Option Addr) (c : Nat) (l : List Int) (r : Bool) (w : World) (hr : Kd.C (Kd.int .i64) w A l.length l) (hc : l.length ≤ c) (h : areAll_impl_isVar.f l = some r) :
    Calls Try.prog 106 #[.slice A l.length c, .func (.func 122) #[] #[]] w fun e w' => e = .returned (.bool r) ∧ Below w.heap.size w w' := by
  unfold areAll_impl_isVar.f at h
  by_cases hs : l.all (fun d => (impl_isVar.f d).isSome) = true
  case neg => rw [if_neg hs] at h; cases h
  rw [if_pos hs] at h
  obtain rfl : l.all (fun d => (impl_isVar.f d).getD false) = r := Option.some.inj h
  refine areAll_Int.calls A c l 122 _ _ w (enters_of Try.func122 (by kernel_rfl) rfl) hr ?_
  intro W d v hd hW hv
  obtain ⟨r_, hr_⟩ := Option.isSome_iff_exists.1 (List.all_eq_true.1 hs d hd)
  obtain rfl : v = .int .i64 d := by simpa using (List.cons.inj hv).1
  refine (impl_isVar.calls (w := W) (h := hr_)).mono ?_
  rintro e w' ⟨rfl, hb⟩
  exact ⟨by show _ = Ending.returned (Value.bool ((impl_isVar.f d).getD false)); rw [hr_]; rfl, hb.below⟩

/-! ### impl_isQuery_1: function 160 -/
def impl_isQuery_1.f (a0_0:Int) (l0_1:List Int) (l90:List Int):Option (Bool):=(impl_within.f a0_0 0 (wrap64 ((l90.length:Int) - 1))).bind fun t153=>(if t153=true then (if 0≤a0_0 then (if a0_0 < (l90.length:Int) then (if (l0_1.length:Int)=(rd l90 a0_0) then ((areAll_impl_isVar.f l0_1).bind fun t155=>(some t155)) else (some false)) else (none)) else (none)) else (some false))
def impl_isQuery_1.T1 : Bool × List (List Nat × List Nat):=(true,[([],[]),([0],[0]),([],[]),([2],[2]),([3],[3]),([1,4],[1,4]),([5,5],[5]),([6],[6]),([7,6],[6,7]),([8,6],[6,8]),([6],[6]),([6],[6]),([11,6],[6,11]),([10,12,6],[6,10,12]),([13,6],[6,13]),([9,14,6],[6,9,14]),([6,15],[6,15]),([16,6],[16]),([17],[17]),([18,17],[17,18]),([19,17,17],[17,19]),([17,20],[17,20]),([21,20,0,1,2,3,4,5,6,7,8,9,10,11,12,13,14,15,16,17,18,19,20,21],[21])])
def impl_isQuery_1.B1 : List Nat:=[0,1,0,4,12,31,63,127,255,511,127,127,2175,7295,15487,32767,65535,131071,262143,524287,1048575,2097151,4194303]
theorem impl_isQuery_1.tab1 : rtab .any (opsOf Try.f160 1)=impl_isQuery_1.T1:=by kernel_rfl
theorem impl_isQuery_1.bits1 : waitsOk impl_isQuery_1.T1.2 impl_isQuery_1.B1=true:=by kernel_rfl
set_option maxHeartbeats 8000000 in
set_option maxRecDepth 100000 in
theorem impl_isQuery_1.calls (ac:Int) (ap:Option Addr) (aq:Nat) (ag:List Int) (B0:Nat) (aK:Option Addr) (aG:Nat) (ai:List Int) (r:Bool) (w:World) (hr0_1:Kd.C (Kd.int .i64) w ap ag.length ag) (hc0_1:ag.length≤aq) (hr90:Kd.C (Kd.int .i64) w aK ai.length ai) (hc90:ai.length≤aG) (hq0:w.heap[B0]?=some (.cells #[.slice aK ai.length aG] 22 (0,0))) (h:impl_isQuery_1.f ac ag ai=some r) :
  Calls Try.prog 160 #[.agg #[.int .i64 ac,.slice ap ag.length aq],.pointer (some ⟨B0,0,none⟩)] w fun e w'=>e=.returned (.bool r)∧Below w.heap.size w w':=by
 have aT:=Try.underlying97;have aH:=qK hr0_1;have aI:=qK hc0_1;clear hr0_1 hc0_1;have aJ:=qK hr90;have aU:=qK hc90;clear hr90 hc90;have aa:=qK hq0;clear hq0;have HB:=qK (Below.refl w.heap.size w);have H:((impl_within.f ac 0 (wrap64 ((ai.length:Int) - 1))).bind fun az=>(if az=true then (if 0≤ac then (if ac < (ai.length:Int) then (if (ag.length:Int)=(rd ai ac) then ((areAll_impl_isVar.f ag).bind fun ar=>(some ar)) else (some false)) else (none)) else (none)) else (some false)))=some r:=h;clear h;replace H:=Option.bind_eq_some_iff.mp H;obtain ⟨az,aQ,H⟩:=H;replace H:(if az=true then (if 0≤ac then (if ac < (ai.length:Int) then (if (ag.length:Int)=(rd ai ac) then ((areAll_impl_isVar.f ag).bind fun ar=>(some ar)) else (some false)) else (none)) else (none)) else (some false))=some r:=H;have A2:=qK aQ;clear aQ;by_cases c3:az=true
 ·subst c3;have H1:(if 0≤ac then (if ac < (ai.length:Int) then (if (ag.length:Int)=(rd ai ac) then ((areAll_impl_isVar.f ag).bind fun ar=>(some ar)) else (some false)) else (none)) else (none))=some r:=by rw [if_pos rfl] at H;exact H
  clear H;have H:=H1;clear H1;by_cases c4:0≤ac
  ·rw [if_pos c4] at H;have aV:decide (0≤ac)=true:=decide_eq_true c4;clear c4;by_cases c5:ac < (ai.length:Int)
   ·rw [if_pos c5] at H;have aW:decide (ac < (ai.length:Int))=true:=decide_eq_true c5;clear c5;by_cases c6:(ag.length:Int)=(rd ai ac)
    ·rw [if_pos c6] at H;have aM:((ag.length:Int) == (rd ai ac))=true:=beq_iff_eq.mpr c6;have aN:((ag.length:Int) != (rd ai ac))=false:=bne_eq_false_iff_eq.mpr c6;clear c6;replace H:=Option.bind_eq_some_iff.mp H;obtain ⟨ar,aR,H⟩:=H;replace H:(some ar)=some r:=H;have A7:=qK aR;clear aR;obtain rfl:=Option.some.inj H;go_enter Try.func160,Try.ntmps160
     try go_wp2_with (first|((with_reducible refine gate_dst (N:=2) rfl ?_);(try (refine gate_guard (by rfl) ?_;dsimp only));refine box_event ?hg (N:=2) ?hd (cs:=#[.int .i64 ac,.slice ap ag.length aq]) (t:=97) ?hr ?_;(case hd=>rfl);(case hg=>rfl);(case hr=>(go_simp;try rfl));intro ah hg w8 hbox hb;have aj:=qK (qB (g:=B0) (o:=_) aa.out hb);have ak:=qK (qT HB.out hb);have al:=qK (hbox);have ax:=qK ((by rw [hg];exact (qZ HB.out):w.heap.size≤ah));have aA:=ax;have ay:=qK ((by rw [hg];exact Nat.ne_of_lt (blk_lt (g:=B0) (o:=_) aa.out):B0 ≠ ah));have aC:=qK ay.out.symm;clear aa HB;have aa:=aj;have HB:=ak;have ab:=al;have aD:=ax;have am:=aA;have an:=ay;have ao:=aC;clear aj ak al ax aA ay aC;clear hb hbox hg))
     have aj:=qK (qW aa.out);have ak:=qK (qW ab.out);have al:=qK (qO HB.out);clear aa ab HB;have aa:=aj;have ab:=ak;have HB:=al;clear aj ak al;have av:0≤(ac:Int):=of_decide_eq_true (by assumption);have aw:ac < (ai.length:Int):=of_decide_eq_true (by assumption);obtain ⟨au,aE,ae⟩:=Kd.at_int aJ.out ac av aw;have af:=ae;cases aE
     replace ae:=(HB.out.cell (World.block_lt_of_cell? w _ ae)).trans ae;replace av:=eq_true av;replace aw:=eq_true aw;refine start_ (n:=23) (S:=fun w'=>w'.cell? ⟨ah,0,none⟩=some (.int .i64 ac)∧w'.cell? ⟨ah,1,none⟩=some (.slice ap ag.length aq)∧w'.cell? ⟨B0,0,none⟩=some (.slice (some au) ai.length aG)∧w'.cell? (au.add (ac).toNat)=some (.int .i64 (rd ai ac))) (ds:=[]) #[Z,Z,Z,Z,Z,Z,Z,Z,Z,Z,Z,Z,Z,Z,Z,Z,Z,Z,Z,Z,Z,Z,Z] (by kernel_rfl) rfl rfl ⟨(qC ab.out 0).trans rfl,(qC ab.out 1).trans rfl,(qC aa.out 0).trans rfl,((HB.out.cell (World.block_lt_of_cell? w _ af)).trans af)⟩ (fun hHeld=>?_);refine with_tabW impl_isQuery_1.tab1 impl_isQuery_1.bits1 (fun HT_ HW_=>?_);generalize w8.drew=w9 at aa ab HB ae hHeld ⊢
     refine pure_ (i:=0) (N:=some 4) (v:=?_) (a':=?_) #[Y,Z,Z,Z,Z,Z,Z,Z,Z,Z,Z,Z,Z,Z,Z,Z,Z,Z,Z,Z,Z,Z,Z] rfl rfl (any_of HT_.out (by kernel_rfl)) (fun _ _ _ h=>h) (Or.inl ⟨by rfl,?_⟩) ?_ ?_;rotate_left
     ·intro w';go_simp;with_reducible rfl
     rotate_left
     ·simp only [Act.put,sIb,sZ,sS,i64_w,i32_w];rfl
     refine take_ (i:=1) (N:=some 5) (v:=?_) (a':=?_) #[Y,Y,Z,Z,Z,Z,Z,Z,Z,Z,Z,Z,Z,Z,Z,Z,Z,Z,Z,Z,Z,Z,Z] rfl rfl (take_ofW HT_.out HW_.out (by kernel_rfl)) (fun _ _ _ h=>h) (Or.inl ⟨by rfl,?_⟩) hHeld ?_ ?_;rotate_left
     ·rintro w' ⟨s0,s1,s2,s3⟩;go_simp;with_reducible rfl
     rotate_left
     ·simp only [Act.put,sIb,sZ,sS,i64_w,i32_w];rfl
     refine take_ (i:=2) (N:=some 6) (v:=?_) (a':=?_) #[Y,Y,Y,Z,Z,Z,Z,Z,Z,Z,Z,Z,Z,Z,Z,Z,Z,Z,Z,Z,Z,Z,Z] rfl rfl (take_ofW HT_.out HW_.out (by kernel_rfl)) (fun _ _ _ h=>h) (Or.inl ⟨by rfl,?_⟩) hHeld ?_ ?_;rotate_left
     ·rintro w' ⟨s0,s1,s2,s3⟩;go_simp;with_reducible rfl
     rotate_left
     ·simp only [Act.put,sIb,sZ,sS,i64_w,i32_w];rfl
     refine pure_ (i:=3) (N:=some 7) (v:=?_) (a':=?_) #[Y,Y,Y,Y,Z,Z,Z,Z,Z,Z,Z,Z,Z,Z,Z,Z,Z,Z,Z,Z,Z,Z,Z] rfl rfl (any_of HT_.out (by kernel_rfl)) (fun _ _ _ h=>h) (Or.inl ⟨by rfl,?_⟩) ?_ ?_;rotate_left
     ·intro w';go_simp;with_reducible rfl
     rotate_left
     ·simp only [Act.put,sIb,sZ,sS,i64_w,i32_w];rfl
     refine pure_ (i:=4) (N:=some 8) (v:=?_) (a':=?_) #[Y,Y,Y,Y,Y,Z,Z,Z,Z,Z,Z,Z,Z,Z,Z,Z,Z,Z,Z,Z,Z,Z,Z] rfl rfl (any_of HT_.out (by kernel_rfl)) (fun _ _ _ h=>h) (Or.inl ⟨by rfl,?_⟩) ?_ ?_;rotate_left
     ·intro w';go_simp;with_reducible rfl
     rotate_left
     ·simp only [Act.put,sIb,sZ,sS,i64_w,i32_w];rfl
     refine one_ (i:=5) (N:=some 9) #[Y,Y,Y,Y,Y,Y,Z,Z,Z,Z,Z,Z,Z,Z,Z,Z,Z,Z,Z,Z,Z,Z,Z] rfl rfl (one_of HT_.out (by kernel_rfl)) (by decide) (fun K hK=>?_);refine goes_ Try.func105 (by kernel_rfl) rfl #[.int .i64 ac,.int .i64 0,.int .i64 (wrap64 ((ai.length:Int) - 1))] (by rfl) rfl rfl (by (try simp only [mT,mC,mN]);first|done|rfl|(simp only [lD,lT];rfl)) ?_;with_reducible refine (impl_within.calls ac 0 (wrap64 ((ai.length:Int) - 1)) true _ A2.out).mono ?_
     rintro e w' ⟨rfl,⟨nd,rfl⟩⟩;refine ⟨_,rfl,?_⟩;refine hK.out _ _ ⟨(qC ab.out 0).trans rfl,(qC ab.out 1).trans rfl,(qC aa.out 0).trans rfl,((HB.out.cell (World.block_lt_of_cell? w _ af)).trans af)⟩ (fun hHeld=>?_);clear hK K;refine norm_ (a':=?_) ?_ ?_;rotate_left
     ·show Act.put _ (some 9) _=_
      simp only [Act.put,sIb,sZ,sS,i64_w,i32_w];rfl
     refine pure_ (i:=6) (N:=some 10) (v:=?_) (a':=?_) #[Y,Y,Y,Y,Y,Y,Y,Z,Z,Z,Z,Z,Z,Z,Z,Z,Z,Z,Z,Z,Z,Z,Z] rfl rfl (any_of HT_.out (by kernel_rfl)) (fun _ _ _ h=>h) (Or.inl ⟨by rfl,?_⟩) ?_ ?_;rotate_left
     ·intro w';go_simp;with_reducible rfl
     rotate_left
     ·simp only [Act.put,sIb,sZ,sS,i64_w,i32_w];rfl
     refine pure_ (i:=7) (N:=some 11) (v:=?_) (a':=?_) #[Y,Y,Y,Y,Y,Y,Y,Y,Z,Z,Z,Z,Z,Z,Z,Z,Z,Z,Z,Z,Z,Z,Z] rfl rfl (any_of HT_.out (by kernel_rfl)) (fun _ _ _ h=>h) (Or.inl ⟨by rfl,?_⟩) ?_ ?_;rotate_left
     ·intro w';go_simp;with_reducible rfl
     rotate_left
     ·simp only [Act.put,sIb,sZ,sS,i64_w,i32_w];rfl
     refine pure_ (i:=11) (N:=some 15) (v:=?_) (a':=?_) #[Y,Y,Y,Y,Y,Y,Y,Y,Z,Z,Z,Y,Z,Z,Z,Z,Z,Z,Z,Z,Z,Z,Z] rfl rfl (any_of HT_.out (by kernel_rfl)) (fun _ _ _ h=>h) (Or.inl ⟨by rfl,?_⟩) ?_ ?_;rotate_left
     ·intro w';go_simp;with_reducible rfl
     rotate_left
     ·simp only [Act.put,sIb,sZ,sS,i64_w,i32_w];rfl
     refine take_ (i:=8) (N:=some 12) (v:=?_) (a':=?_) #[Y,Y,Y,Y,Y,Y,Y,Y,Y,Z,Z,Y,Z,Z,Z,Z,Z,Z,Z,Z,Z,Z,Z] rfl rfl (take_ofW HT_.out HW_.out (by kernel_rfl)) (fun _ _ _ h=>h) (Or.inl ⟨by rfl,?_⟩) hHeld ?_ ?_;rotate_left
     ·rintro w' ⟨s0,s1,s2,s3⟩;go_simp;with_reducible rfl
     rotate_left
     ·simp only [Act.put,sIb,sZ,sS,i64_w,i32_w];rfl
     refine pure_ (i:=9) (N:=some 13) (v:=?_) (a':=?_) #[Y,Y,Y,Y,Y,Y,Y,Y,Y,Y,Z,Y,Z,Z,Z,Z,Z,Z,Z,Z,Z,Z,Z] rfl rfl (any_of HT_.out (by kernel_rfl)) (fun _ _ _ h=>h) (Or.inl ⟨by rfl,?_⟩) ?_ ?_;rotate_left
     ·intro w';go_simp;with_reducible rfl
     rotate_left
     ·simp only [Act.put,sIb,sZ,sS,i64_w,i32_w];rfl
     refine take_ (i:=10) (N:=some 14) (v:=?_) (a':=?_) #[Y,Y,Y,Y,Y,Y,Y,Y,Y,Y,Y,Y,Z,Z,Z,Z,Z,Z,Z,Z,Z,Z,Z] rfl rfl (take_ofW HT_.out HW_.out (by kernel_rfl)) (fun _ _ _ h=>h) (Or.inl ⟨by rfl,?_⟩) hHeld ?_ ?_;rotate_left
     ·rintro w' ⟨s0,s1,s2,s3⟩;go_simp;with_reducible rfl
     rotate_left
     ·simp only [Act.put,sIb,sZ,sS,i64_w,i32_w];rfl
     refine take_ (i:=12) (N:=some 16) (v:=?_) (a':=?_) #[Y,Y,Y,Y,Y,Y,Y,Y,Y,Y,Y,Y,Y,Z,Z,Z,Z,Z,Z,Z,Z,Z,Z] rfl rfl (take_ofW HT_.out HW_.out (by kernel_rfl)) (fun _ _ _ h=>h) (Or.inl ⟨by rfl,?_⟩) hHeld ?_ ?_;rotate_left
     ·rintro w' ⟨s0,s1,s2,s3⟩;go_simp;with_reducible rfl
     rotate_left
     ·simp only [Act.put,sIb,sZ,sS,i64_w,i32_w];rfl
     refine pure_ (i:=13) (N:=some 17) (v:=?_) (a':=?_) #[Y,Y,Y,Y,Y,Y,Y,Y,Y,Y,Y,Y,Y,Y,Z,Z,Z,Z,Z,Z,Z,Z,Z] rfl rfl (any_of HT_.out (by kernel_rfl)) (fun _ _ _ h=>h) (Or.inl ⟨by rfl,?_⟩) ?_ ?_;rotate_left
     ·intro w';go_simp;with_reducible rfl
     rotate_left
     ·simp only [Act.put,sIb,sZ,sS,i64_w,i32_w];rfl
     refine take_ (i:=14) (N:=some 18) (v:=?_) (a':=?_) #[Y,Y,Y,Y,Y,Y,Y,Y,Y,Y,Y,Y,Y,Y,Y,Z,Z,Z,Z,Z,Z,Z,Z] rfl rfl (take_ofW HT_.out HW_.out (by kernel_rfl)) (fun _ _ _ h=>h) (Or.inl ⟨by rfl,?_⟩) hHeld ?_ ?_;rotate_left
     ·rintro w' ⟨s0,s1,s2,s3⟩;go_simp;with_reducible rfl
     rotate_left
     ·simp only [Act.put,sIb,sZ,sS,i64_w,i32_w];rfl
     refine pure_ (i:=15) (N:=some 19) (v:=?_) (a':=?_) #[Y,Y,Y,Y,Y,Y,Y,Y,Y,Y,Y,Y,Y,Y,Y,Y,Z,Z,Z,Z,Z,Z,Z] rfl rfl (any_of HT_.out (by kernel_rfl)) (fun _ _ _ h=>h) (Or.inl ⟨by rfl,?_⟩) ?_ ?_;rotate_left
     ·intro w';go_simp;with_reducible rfl
     rotate_left
     ·simp only [Act.put,sIb,sZ,sS,i64_w,i32_w];rfl
     refine pure_ (i:=16) (N:=some 20) (v:=?_) (a':=?_) #[Y,Y,Y,Y,Y,Y,Y,Y,Y,Y,Y,Y,Y,Y,Y,Y,Y,Z,Z,Z,Z,Z,Z] rfl rfl (any_of HT_.out (by kernel_rfl)) (fun _ _ _ h=>h) (Or.inl ⟨by rfl,?_⟩) ?_ ?_;rotate_left
     ·intro w';go_simp;with_reducible rfl
     rotate_left
     ·simp only [Act.put,sIb,sZ,sS,i64_w,i32_w];rfl
     refine pure_ (i:=17) (N:=some 21) (v:=?_) (a':=?_) #[Y,Y,Y,Y,Y,Y,Y,Y,Y,Y,Y,Y,Y,Y,Y,Y,Y,Y,Z,Z,Z,Z,Z] rfl rfl (any_of HT_.out (by kernel_rfl)) (fun _ _ _ h=>h) (Or.inl ⟨by rfl,?_⟩) ?_ ?_;rotate_left
     ·intro w';go_simp;with_reducible rfl
     rotate_left
     ·simp only [Act.put,sIb,sZ,sS,i64_w,i32_w];rfl
     refine pure_ (i:=18) (N:=some 22) (v:=?_) (a':=?_) #[Y,Y,Y,Y,Y,Y,Y,Y,Y,Y,Y,Y,Y,Y,Y,Y,Y,Y,Y,Z,Z,Z,Z] rfl rfl (any_of HT_.out (by kernel_rfl)) (fun _ _ _ h=>h) (Or.inl ⟨by rfl,?_⟩) ?_ ?_;rotate_left
     ·intro w';go_simp;with_reducible rfl
     rotate_left
     ·simp only [Act.put,sIb,sZ,sS,i64_w,i32_w];rfl
     refine take_ (i:=19) (N:=some 23) (v:=?_) (a':=?_) #[Y,Y,Y,Y,Y,Y,Y,Y,Y,Y,Y,Y,Y,Y,Y,Y,Y,Y,Y,Y,Z,Z,Z] rfl rfl (take_ofW HT_.out HW_.out (by kernel_rfl)) (fun _ _ _ h=>h) (Or.inl ⟨by rfl,?_⟩) hHeld ?_ ?_;rotate_left
     ·rintro w' ⟨s0,s1,s2,s3⟩;go_simp;with_reducible rfl
     rotate_left
     ·simp only [Act.put,sIb,sZ,sS,i64_w,i32_w];rfl
     refine one_ (i:=20) (N:=some 24) #[Y,Y,Y,Y,Y,Y,Y,Y,Y,Y,Y,Y,Y,Y,Y,Y,Y,Y,Y,Y,Y,Z,Z] rfl rfl (one_of HT_.out (by kernel_rfl)) (by decide) (fun K hK=>?_);refine goes_ Try.func106 (by kernel_rfl) rfl #[.slice ap ag.length aq,.func (.func 122) #[] #[]] (by rfl) rfl rfl (by (try simp only [mT,mC,mN]);first|done|rfl|(simp only [lD,lT];rfl)) ?_;with_reducible refine (areAll_impl_isVar.calls _ _ ag  ar _ ?side1 ?side2 A7.out).mono ?_
     (case side1=>exact (cB aH.out (by repeat (with_reducible first|exact HB.out|apply qA|apply qD|apply qO|refine qS ?_ GE151.out|refine qS ?_ am.out))));(case side2=>exact aI.out);rintro e aZ ⟨rfl,hb⟩;refine ⟨_,rfl,?_⟩;have aj:=qK (qB (g:=B0) (o:=_) (by exact aa.out) hb);have ak:=qK (qB (g:=ah) (o:=_) (by exact ab.out) hb);have al:=qK (qT (by repeat (with_reducible first|exact HB.out|apply qA|apply qD|apply qO|refine qS ?_ GE151.out|refine qS ?_ am.out)) hb);clear aa ab HB;have aa:=aj;have ab:=ak;have HB:=al;clear aj ak al;(try clear hb);refine hK.out _ _ ⟨(qC ab.out 0).trans rfl,(qC ab.out 1).trans rfl,(qC aa.out 0).trans rfl,((HB.out.cell (World.block_lt_of_cell? w _ af)).trans af)⟩ (fun hHeld=>?_);clear hK K;refine norm_ (a':=?_) ?_ ?_;rotate_left
     ·show Act.put _ (some 24) _=_
      simp only [Act.put,sIb,sZ,sS,i64_w,i32_w];rfl
     refine pure_ (i:=21) (N:=some 25) (v:=?_) (a':=?_) #[Y,Y,Y,Y,Y,Y,Y,Y,Y,Y,Y,Y,Y,Y,Y,Y,Y,Y,Y,Y,Y,Y,Z] rfl rfl (any_of HT_.out (by kernel_rfl)) (fun _ _ _ h=>h) (Or.inl ⟨by rfl,?_⟩) ?_ ?_;rotate_left
     ·intro w';go_simp;with_reducible rfl
     rotate_left
     ·simp only [Act.put,sIb,sZ,sS,i64_w,i32_w];rfl
     refine pure_ (i:=22) (N:=some 3) (v:=?_) (a':=?_) #[Y,Y,Y,Y,Y,Y,Y,Y,Y,Y,Y,Y,Y,Y,Y,Y,Y,Y,Y,Y,Y,Y,Y] rfl rfl (any_of HT_.out (by kernel_rfl)) (fun _ _ _ h=>h) (Or.inl ⟨by rfl,?_⟩) ?_ ?_;rotate_left
     ·intro w';go_simp;with_reducible rfl
     rotate_left
     ·simp only [Act.put,sIb,sZ,sS,i64_w,i32_w];rfl
     refine done_ (done_of HT_.out (by kernel_rfl)) ?_;try go_wp2
     go_ret
     exact ⟨by rfl,HB.out⟩
    ·rw [if_neg c6] at H;have aM:((ag.length:Int) == (rd ai ac))=false:=beq_eq_false_iff_ne.mpr c6;have aN:((ag.length:Int) != (rd ai ac))=true:=bne_iff_ne.mpr c6;obtain rfl:=Option.some.inj H;go_enter Try.func160,Try.ntmps160
     try go_wp2_with (first|((with_reducible refine gate_dst (N:=2) rfl ?_);(try (refine gate_guard (by rfl) ?_;dsimp only));refine box_event ?hg (N:=2) ?hd (cs:=#[.int .i64 ac,.slice ap ag.length aq]) (t:=97) ?hr ?_;(case hd=>rfl);(case hg=>rfl);(case hr=>(go_simp;try rfl));intro ah hg aX hbox hb;have aj:=qK (qB (g:=B0) (o:=_) aa.out hb);have ak:=qK (qT HB.out hb);have al:=qK (hbox);have ax:=qK ((by rw [hg];exact (qZ HB.out):w.heap.size≤ah));have aA:=ax;have ay:=qK ((by rw [hg];exact Nat.ne_of_lt (blk_lt (g:=B0) (o:=_) aa.out):B0 ≠ ah));have aC:=qK ay.out.symm;clear aa HB;have aa:=aj;have HB:=ak;have ab:=al;have aD:=ax;have am:=aA;have an:=ay;have ao:=aC;clear aj ak al ax aA ay aC;clear hb hbox hg))
     have aj:=qK (qW aa.out);have ak:=qK (qW ab.out);have al:=qK (qO HB.out);clear aa ab HB;have aa:=aj;have ab:=ak;have HB:=al;clear aj ak al;have av:0≤(ac:Int):=of_decide_eq_true (by assumption);have aw:ac < (ai.length:Int):=of_decide_eq_true (by assumption);obtain ⟨au,aE,ae⟩:=Kd.at_int aJ.out ac av aw;have af:=ae;cases aE
     replace ae:=(HB.out.cell (World.block_lt_of_cell? w _ ae)).trans ae;replace av:=eq_true av;replace aw:=eq_true aw;refine start_ (n:=23) (S:=fun w'=>w'.cell? ⟨ah,0,none⟩=some (.int .i64 ac)∧w'.cell? ⟨ah,1,none⟩=some (.slice ap ag.length aq)∧w'.cell? ⟨B0,0,none⟩=some (.slice (some au) ai.length aG)∧w'.cell? (au.add (ac).toNat)=some (.int .i64 (rd ai ac))) (ds:=[]) #[Z,Z,Z,Z,Z,Z,Z,Z,Z,Z,Z,Z,Z,Z,Z,Z,Z,Z,Z,Z,Z,Z,Z] (by kernel_rfl) rfl rfl ⟨(qC ab.out 0).trans rfl,(qC ab.out 1).trans rfl,(qC aa.out 0).trans rfl,((HB.out.cell (World.block_lt_of_cell? w _ af)).trans af)⟩ (fun hHeld=>?_);refine with_tabW impl_isQuery_1.tab1 impl_isQuery_1.bits1 (fun HT_ HW_=>?_);generalize aX.drew=w12 at aa ab HB ae hHeld ⊢
     refine pure_ (i:=0) (N:=some 4) (v:=?_) (a':=?_) #[Y,Z,Z,Z,Z,Z,Z,Z,Z,Z,Z,Z,Z,Z,Z,Z,Z,Z,Z,Z,Z,Z,Z] rfl rfl (any_of HT_.out (by kernel_rfl)) (fun _ _ _ h=>h) (Or.inl ⟨by rfl,?_⟩) ?_ ?_;rotate_left
     ·intro w';go_simp;with_reducible rfl
     rotate_left
     ·simp only [Act.put,sIb,sZ,sS,i64_w,i32_w];rfl
     refine take_ (i:=1) (N:=some 5) (v:=?_) (a':=?_) #[Y,Y,Z,Z,Z,Z,Z,Z,Z,Z,Z,Z,Z,Z,Z,Z,Z,Z,Z,Z,Z,Z,Z] rfl rfl (take_ofW HT_.out HW_.out (by kernel_rfl)) (fun _ _ _ h=>h) (Or.inl ⟨by rfl,?_⟩) hHeld ?_ ?_;rotate_left
     ·rintro w' ⟨s0,s1,s2,s3⟩;go_simp;with_reducible rfl
     rotate_left
     ·simp only [Act.put,sIb,sZ,sS,i64_w,i32_w];rfl
     refine take_ (i:=2) (N:=some 6) (v:=?_) (a':=?_) #[Y,Y,Y,Z,Z,Z,Z,Z,Z,Z,Z,Z,Z,Z,Z,Z,Z,Z,Z,Z,Z,Z,Z] rfl rfl (take_ofW HT_.out HW_.out (by kernel_rfl)) (fun _ _ _ h=>h) (Or.inl ⟨by rfl,?_⟩) hHeld ?_ ?_;rotate_left
     ·rintro w' ⟨s0,s1,s2,s3⟩;go_simp;with_reducible rfl
     rotate_left
     ·simp only [Act.put,sIb,sZ,sS,i64_w,i32_w];rfl
     refine pure_ (i:=3) (N:=some 7) (v:=?_) (a':=?_) #[Y,Y,Y,Y,Z,Z,Z,Z,Z,Z,Z,Z,Z,Z,Z,Z,Z,Z,Z,Z,Z,Z,Z] rfl rfl (any_of HT_.out (by kernel_rfl)) (fun _ _ _ h=>h) (Or.inl ⟨by rfl,?_⟩) ?_ ?_;rotate_left
     ·intro w';go_simp;with_reducible rfl
     rotate_left
     ·simp only [Act.put,sIb,sZ,sS,i64_w,i32_w];rfl
     refine pure_ (i:=4) (N:=some 8) (v:=?_) (a':=?_) #[Y,Y,Y,Y,Y,Z,Z,Z,Z,Z,Z,Z,Z,Z,Z,Z,Z,Z,Z,Z,Z,Z,Z] rfl rfl (any_of HT_.out (by kernel_rfl)) (fun _ _ _ h=>h) (Or.inl ⟨by rfl,?_⟩) ?_ ?_;rotate_left
     ·intro w';go_simp;with_reducible rfl
     rotate_left
     ·simp only [Act.put,sIb,sZ,sS,i64_w,i32_w];rfl
     refine one_ (i:=5) (N:=some 9) #[Y,Y,Y,Y,Y,Y,Z,Z,Z,Z,Z,Z,Z,Z,Z,Z,Z,Z,Z,Z,Z,Z,Z] rfl rfl (one_of HT_.out (by kernel_rfl)) (by decide) (fun K hK=>?_);refine goes_ Try.func105 (by kernel_rfl) rfl #[.int .i64 ac,.int .i64 0,.int .i64 (wrap64 ((ai.length:Int) - 1))] (by rfl) rfl rfl (by (try simp only [mT,mC,mN]);first|done|rfl|(simp only [lD,lT];rfl)) ?_;with_reducible refine (impl_within.calls ac 0 (wrap64 ((ai.length:Int) - 1)) true _ A2.out).mono ?_
     rintro e w' ⟨rfl,⟨nd,rfl⟩⟩;refine ⟨_,rfl,?_⟩;refine hK.out _ _ ⟨(qC ab.out 0).trans rfl,(qC ab.out 1).trans rfl,(qC aa.out 0).trans rfl,((HB.out.cell (World.block_lt_of_cell? w _ af)).trans af)⟩ (fun hHeld=>?_);clear hK K;refine norm_ (a':=?_) ?_ ?_;rotate_left
     ·show Act.put _ (some 9) _=_
      simp only [Act.put,sIb,sZ,sS,i64_w,i32_w];rfl
     refine pure_ (i:=6) (N:=some 10) (v:=?_) (a':=?_) #[Y,Y,Y,Y,Y,Y,Y,Z,Z,Z,Z,Z,Z,Z,Z,Z,Z,Z,Z,Z,Z,Z,Z] rfl rfl (any_of HT_.out (by kernel_rfl)) (fun _ _ _ h=>h) (Or.inl ⟨by rfl,?_⟩) ?_ ?_;rotate_left
     ·intro w';go_simp;with_reducible rfl
     rotate_left
     ·simp only [Act.put,sIb,sZ,sS,i64_w,i32_w];rfl
     refine pure_ (i:=7) (N:=some 11) (v:=?_) (a':=?_) #[Y,Y,Y,Y,Y,Y,Y,Y,Z,Z,Z,Z,Z,Z,Z,Z,Z,Z,Z,Z,Z,Z,Z] rfl rfl (any_of HT_.out (by kernel_rfl)) (fun _ _ _ h=>h) (Or.inl ⟨by rfl,?_⟩) ?_ ?_;rotate_left
     ·intro w';go_simp;with_reducible rfl
     rotate_left
     ·simp only [Act.put,sIb,sZ,sS,i64_w,i32_w];rfl
     refine pure_ (i:=11) (N:=some 15) (v:=?_) (a':=?_) #[Y,Y,Y,Y,Y,Y,Y,Y,Z,Z,Z,Y,Z,Z,Z,Z,Z,Z,Z,Z,Z,Z,Z] rfl rfl (any_of HT_.out (by kernel_rfl)) (fun _ _ _ h=>h) (Or.inl ⟨by rfl,?_⟩) ?_ ?_;rotate_left
     ·intro w';go_simp;with_reducible rfl
     rotate_left
     ·simp only [Act.put,sIb,sZ,sS,i64_w,i32_w];rfl
     refine take_ (i:=8) (N:=some 12) (v:=?_) (a':=?_) #[Y,Y,Y,Y,Y,Y,Y,Y,Y,Z,Z,Y,Z,Z,Z,Z,Z,Z,Z,Z,Z,Z,Z] rfl rfl (take_ofW HT_.out HW_.out (by kernel_rfl)) (fun _ _ _ h=>h) (Or.inl ⟨by rfl,?_⟩) hHeld ?_ ?_;rotate_left
     ·rintro w' ⟨s0,s1,s2,s3⟩;go_simp;with_reducible rfl
     rotate_left
     ·simp only [Act.put,sIb,sZ,sS,i64_w,i32_w];rfl
     refine pure_ (i:=9) (N:=some 13) (v:=?_) (a':=?_) #[Y,Y,Y,Y,Y,Y,Y,Y,Y,Y,Z,Y,Z,Z,Z,Z,Z,Z,Z,Z,Z,Z,Z] rfl rfl (any_of HT_.out (by kernel_rfl)) (fun _ _ _ h=>h) (Or.inl ⟨by rfl,?_⟩) ?_ ?_;rotate_left
     ·intro w';go_simp;with_reducible rfl
     rotate_left
     ·simp only [Act.put,sIb,sZ,sS,i64_w,i32_w];rfl
     refine take_ (i:=10) (N:=some 14) (v:=?_) (a':=?_) #[Y,Y,Y,Y,Y,Y,Y,Y,Y,Y,Y,Y,Z,Z,Z,Z,Z,Z,Z,Z,Z,Z,Z] rfl rfl (take_ofW HT_.out HW_.out (by kernel_rfl)) (fun _ _ _ h=>h) (Or.inl ⟨by rfl,?_⟩) hHeld ?_ ?_;rotate_left
     ·rintro w' ⟨s0,s1,s2,s3⟩;go_simp;with_reducible rfl
     rotate_left
     ·simp only [Act.put,sIb,sZ,sS,i64_w,i32_w];rfl
     refine take_ (i:=12) (N:=some 16) (v:=?_) (a':=?_) #[Y,Y,Y,Y,Y,Y,Y,Y,Y,Y,Y,Y,Y,Z,Z,Z,Z,Z,Z,Z,Z,Z,Z] rfl rfl (take_ofW HT_.out HW_.out (by kernel_rfl)) (fun _ _ _ h=>h) (Or.inl ⟨by rfl,?_⟩) hHeld ?_ ?_;rotate_left
     ·rintro w' ⟨s0,s1,s2,s3⟩;go_simp;with_reducible rfl
     rotate_left
     ·simp only [Act.put,sIb,sZ,sS,i64_w,i32_w];rfl
     refine pure_ (i:=13) (N:=some 17) (v:=?_) (a':=?_) #[Y,Y,Y,Y,Y,Y,Y,Y,Y,Y,Y,Y,Y,Y,Z,Z,Z,Z,Z,Z,Z,Z,Z] rfl rfl (any_of HT_.out (by kernel_rfl)) (fun _ _ _ h=>h) (Or.inl ⟨by rfl,?_⟩) ?_ ?_;rotate_left
     ·intro w';go_simp;with_reducible rfl
     rotate_left
     ·simp only [Act.put,sIb,sZ,sS,i64_w,i32_w];rfl
     refine take_ (i:=14) (N:=some 18) (v:=?_) (a':=?_) #[Y,Y,Y,Y,Y,Y,Y,Y,Y,Y,Y,Y,Y,Y,Y,Z,Z,Z,Z,Z,Z,Z,Z] rfl rfl (take_ofW HT_.out HW_.out (by kernel_rfl)) (fun _ _ _ h=>h) (Or.inl ⟨by rfl,?_⟩) hHeld ?_ ?_;rotate_left
     ·rintro w' ⟨s0,s1,s2,s3⟩;go_simp;with_reducible rfl
     rotate_left
     ·simp only [Act.put,sIb,sZ,sS,i64_w,i32_w];rfl
     refine pure_ (i:=15) (N:=some 19) (v:=?_) (a':=?_) #[Y,Y,Y,Y,Y,Y,Y,Y,Y,Y,Y,Y,Y,Y,Y,Y,Z,Z,Z,Z,Z,Z,Z] rfl rfl (any_of HT_.out (by kernel_rfl)) (fun _ _ _ h=>h) (Or.inl ⟨by rfl,?_⟩) ?_ ?_;rotate_left
     ·intro w';go_simp;with_reducible rfl
     rotate_left
     ·simp only [Act.put,sIb,sZ,sS,i64_w,i32_w];rfl
     refine pure_ (i:=16) (N:=some 20) (v:=?_) (a':=?_) #[Y,Y,Y,Y,Y,Y,Y,Y,Y,Y,Y,Y,Y,Y,Y,Y,Y,Z,Z,Z,Z,Z,Z] rfl rfl (any_of HT_.out (by kernel_rfl)) (fun _ _ _ h=>h) (Or.inl ⟨by rfl,?_⟩) ?_ ?_;rotate_left
     ·intro w';go_simp;with_reducible rfl
     rotate_left
     ·simp only [Act.put,sIb,sZ,sS,i64_w,i32_w];rfl
     refine pure_ (i:=17) (N:=some 21) (v:=?_) (a':=?_) #[Y,Y,Y,Y,Y,Y,Y,Y,Y,Y,Y,Y,Y,Y,Y,Y,Y,Y,Z,Z,Z,Z,Z] rfl rfl (any_of HT_.out (by kernel_rfl)) (fun _ _ _ h=>h) (Or.inl ⟨by rfl,?_⟩) ?_ ?_;rotate_left
     ·intro w';go_simp;with_reducible rfl
     rotate_left
     ·simp only [Act.put,sIb,sZ,sS,i64_w,i32_w];rfl
     refine pure_ (i:=18) (N:=some 22) (v:=undef) (a':=?_) #[Y,Y,Y,Y,Y,Y,Y,Y,Y,Y,Y,Y,Y,Y,Y,Y,Y,Y,Y,Z,Z,Z,Z] rfl rfl (any_of HT_.out (by kernel_rfl)) (fun _ _ _ h=>h) (Or.inr ⟨by rfl,rfl⟩) ?_ ?_;rotate_left
     ·simp only [Act.put,sIb,sZ,sS,i64_w,i32_w];rfl
     refine pure_ (i:=19) (N:=some 23) (v:=undef) (a':=?_) #[Y,Y,Y,Y,Y,Y,Y,Y,Y,Y,Y,Y,Y,Y,Y,Y,Y,Y,Y,Y,Z,Z,Z] rfl rfl (any_of HT_.out (by kernel_rfl)) (fun _ _ _ h=>h) (Or.inr ⟨by rfl,rfl⟩) ?_ ?_;rotate_left
     ·simp only [Act.put,sIb,sZ,sS,i64_w,i32_w];rfl
     refine pure_ (i:=20) (N:=some 24) (v:=undef) (a':=?_) #[Y,Y,Y,Y,Y,Y,Y,Y,Y,Y,Y,Y,Y,Y,Y,Y,Y,Y,Y,Y,Y,Z,Z] rfl rfl (any_of HT_.out (by kernel_rfl)) (fun _ _ _ h=>h) (Or.inr ⟨by rfl,rfl⟩) ?_ ?_;rotate_left
     ·simp only [Act.put,sIb,sZ,sS,i64_w,i32_w];rfl
     refine pure_ (i:=21) (N:=some 25) (v:=?_) (a':=?_) #[Y,Y,Y,Y,Y,Y,Y,Y,Y,Y,Y,Y,Y,Y,Y,Y,Y,Y,Y,Y,Y,Y,Z] rfl rfl (any_of HT_.out (by kernel_rfl)) (fun _ _ _ h=>h) (Or.inl ⟨by rfl,?_⟩) ?_ ?_;rotate_left
     ·intro w';go_simp;with_reducible rfl
     rotate_left
     ·simp only [Act.put,sIb,sZ,sS,i64_w,i32_w];rfl
     refine pure_ (i:=22) (N:=some 3) (v:=?_) (a':=?_) #[Y,Y,Y,Y,Y,Y,Y,Y,Y,Y,Y,Y,Y,Y,Y,Y,Y,Y,Y,Y,Y,Y,Y] rfl rfl (any_of HT_.out (by kernel_rfl)) (fun _ _ _ h=>h) (Or.inl ⟨by rfl,?_⟩) ?_ ?_;rotate_left
     ·intro w';go_simp;with_reducible rfl
     rotate_left
     ·simp only [Act.put,sIb,sZ,sS,i64_w,i32_w];rfl
     refine done_ (done_of HT_.out (by kernel_rfl)) ?_;try go_wp2
     go_ret
     exact ⟨by rfl,by repeat (first|(with_reducible first|exact HB.out|apply qA|apply qD|apply qO|refine qS ?_ GE151.out|refine qS ?_ am.out)|exact HB.out)⟩
   ·rw [if_neg c5] at H;exact absurd H (by simp)
  ·rw [if_neg c4] at H;exact absurd H (by simp)
 ·replace c3:=Bool.eq_false_iff.mpr c3;subst c3;have H1:(some false)=some r:=by rw [if_neg (show ¬ (false=true) by decide)] at H;exact H
  clear H;have H:=H1;clear H1;obtain rfl:=Option.some.inj H;go_enter Try.func160,Try.ntmps160
  try go_wp2_with (first|((with_reducible refine gate_dst (N:=2) rfl ?_);(try (refine gate_guard (by rfl) ?_;dsimp only));refine box_event ?hg (N:=2) ?hd (cs:=#[.int .i64 ac,.slice ap ag.length aq]) (t:=97) ?hr ?_;(case hd=>rfl);(case hg=>rfl);(case hr=>(go_simp;try rfl));intro ah hg aY hbox hb;have aj:=qK (qB (g:=B0) (o:=_) aa.out hb);have ak:=qK (qT HB.out hb);have al:=qK (hbox);have ax:=qK ((by rw [hg];exact (qZ HB.out):w.heap.size≤ah));have aA:=ax;have ay:=qK ((by rw [hg];exact Nat.ne_of_lt (blk_lt (g:=B0) (o:=_) aa.out):B0 ≠ ah));have aC:=qK ay.out.symm;clear aa HB;have aa:=aj;have HB:=ak;have ab:=al;have aD:=ax;have am:=aA;have an:=ay;have ao:=aC;clear aj ak al ax aA ay aC;clear hb hbox hg))
  have aj:=qK (qW aa.out);have ak:=qK (qW ab.out);have al:=qK (qO HB.out);clear aa ab HB;have aa:=aj;have ab:=ak;have HB:=al;clear aj ak al;refine start_ (n:=23) (S:=fun w'=>w'.cell? ⟨ah,0,none⟩=some (.int .i64 ac)∧w'.cell? ⟨ah,1,none⟩=some (.slice ap ag.length aq)∧w'.cell? ⟨B0,0,none⟩=some (.slice aK ai.length aG)) (ds:=[]) #[Z,Z,Z,Z,Z,Z,Z,Z,Z,Z,Z,Z,Z,Z,Z,Z,Z,Z,Z,Z,Z,Z,Z] (by kernel_rfl) rfl rfl ⟨(qC ab.out 0).trans rfl,(qC ab.out 1).trans rfl,(qC aa.out 0).trans rfl⟩ (fun hHeld=>?_);refine with_tabW impl_isQuery_1.tab1 impl_isQuery_1.bits1 (fun HT_ HW_=>?_);generalize aY.drew=w14 at aa ab HB hHeld ⊢
  refine pure_ (i:=0) (N:=some 4) (v:=?_) (a':=?_) #[Y,Z,Z,Z,Z,Z,Z,Z,Z,Z,Z,Z,Z,Z,Z,Z,Z,Z,Z,Z,Z,Z,Z] rfl rfl (any_of HT_.out (by kernel_rfl)) (fun _ _ _ h=>h) (Or.inl ⟨by rfl,?_⟩) ?_ ?_;rotate_left
  ·intro w';go_simp;with_reducible rfl
  rotate_left
  ·simp only [Act.put,sIb,sZ,sS,i64_w,i32_w];rfl
  refine take_ (i:=1) (N:=some 5) (v:=?_) (a':=?_) #[Y,Y,Z,Z,Z,Z,Z,Z,Z,Z,Z,Z,Z,Z,Z,Z,Z,Z,Z,Z,Z,Z,Z] rfl rfl (take_ofW HT_.out HW_.out (by kernel_rfl)) (fun _ _ _ h=>h) (Or.inl ⟨by rfl,?_⟩) hHeld ?_ ?_;rotate_left
  ·rintro w' ⟨s0,s1,s2⟩;go_simp;with_reducible rfl
  rotate_left
  ·simp only [Act.put,sIb,sZ,sS,i64_w,i32_w];rfl
  refine take_ (i:=2) (N:=some 6) (v:=?_) (a':=?_) #[Y,Y,Y,Z,Z,Z,Z,Z,Z,Z,Z,Z,Z,Z,Z,Z,Z,Z,Z,Z,Z,Z,Z] rfl rfl (take_ofW HT_.out HW_.out (by kernel_rfl)) (fun _ _ _ h=>h) (Or.inl ⟨by rfl,?_⟩) hHeld ?_ ?_;rotate_left
  ·rintro w' ⟨s0,s1,s2⟩;go_simp;with_reducible rfl
  rotate_left
  ·simp only [Act.put,sIb,sZ,sS,i64_w,i32_w];rfl
  refine pure_ (i:=3) (N:=some 7) (v:=?_) (a':=?_) #[Y,Y,Y,Y,Z,Z,Z,Z,Z,Z,Z,Z,Z,Z,Z,Z,Z,Z,Z,Z,Z,Z,Z] rfl rfl (any_of HT_.out (by kernel_rfl)) (fun _ _ _ h=>h) (Or.inl ⟨by rfl,?_⟩) ?_ ?_;rotate_left
  ·intro w';go_simp;with_reducible rfl
  rotate_left
  ·simp only [Act.put,sIb,sZ,sS,i64_w,i32_w];rfl
  refine pure_ (i:=4) (N:=some 8) (v:=?_) (a':=?_) #[Y,Y,Y,Y,Y,Z,Z,Z,Z,Z,Z,Z,Z,Z,Z,Z,Z,Z,Z,Z,Z,Z,Z] rfl rfl (any_of HT_.out (by kernel_rfl)) (fun _ _ _ h=>h) (Or.inl ⟨by rfl,?_⟩) ?_ ?_;rotate_left
  ·intro w';go_simp;with_reducible rfl
  rotate_left
  ·simp only [Act.put,sIb,sZ,sS,i64_w,i32_w];rfl
  refine one_ (i:=5) (N:=some 9) #[Y,Y,Y,Y,Y,Y,Z,Z,Z,Z,Z,Z,Z,Z,Z,Z,Z,Z,Z,Z,Z,Z,Z] rfl rfl (one_of HT_.out (by kernel_rfl)) (by decide) (fun K hK=>?_);refine goes_ Try.func105 (by kernel_rfl) rfl #[.int .i64 ac,.int .i64 0,.int .i64 (wrap64 ((ai.length:Int) - 1))] (by rfl) rfl rfl (by (try simp only [mT,mC,mN]);first|done|rfl|(simp only [lD,lT];rfl)) ?_;with_reducible refine (impl_within.calls ac 0 (wrap64 ((ai.length:Int) - 1)) false _ A2.out).mono ?_
  rintro e w' ⟨rfl,⟨nd,rfl⟩⟩;refine ⟨_,rfl,?_⟩;refine hK.out _ _ ⟨(qC ab.out 0).trans rfl,(qC ab.out 1).trans rfl,(qC aa.out 0).trans rfl⟩ (fun hHeld=>?_);clear hK K;refine norm_ (a':=?_) ?_ ?_;rotate_left
  ·show Act.put _ (some 9) _=_
   simp only [Act.put,sIb,sZ,sS,i64_w,i32_w];rfl
  refine pure_ (i:=6) (N:=some 10) (v:=?_) (a':=?_) #[Y,Y,Y,Y,Y,Y,Y,Z,Z,Z,Z,Z,Z,Z,Z,Z,Z,Z,Z,Z,Z,Z,Z] rfl rfl (any_of HT_.out (by kernel_rfl)) (fun _ _ _ h=>h) (Or.inl ⟨by rfl,?_⟩) ?_ ?_;rotate_left
  ·intro w';go_simp;with_reducible rfl
  rotate_left
  ·simp only [Act.put,sIb,sZ,sS,i64_w,i32_w];rfl
  refine pure_ (i:=7) (N:=some 11) (v:=undef) (a':=?_) #[Y,Y,Y,Y,Y,Y,Y,Y,Z,Z,Z,Z,Z,Z,Z,Z,Z,Z,Z,Z,Z,Z,Z] rfl rfl (any_of HT_.out (by kernel_rfl)) (fun _ _ _ h=>h) (Or.inr ⟨by rfl,rfl⟩) ?_ ?_;rotate_left
  ·simp only [Act.put,sIb,sZ,sS,i64_w,i32_w];rfl
  refine pure_ (i:=8) (N:=some 12) (v:=undef) (a':=?_) #[Y,Y,Y,Y,Y,Y,Y,Y,Y,Z,Z,Z,Z,Z,Z,Z,Z,Z,Z,Z,Z,Z,Z] rfl rfl (any_of HT_.out (by kernel_rfl)) (fun _ _ _ h=>h) (Or.inr ⟨by rfl,rfl⟩) ?_ ?_;rotate_left
  ·simp only [Act.put,sIb,sZ,sS,i64_w,i32_w];rfl
  refine pure_ (i:=9) (N:=some 13) (v:=undef) (a':=?_) #[Y,Y,Y,Y,Y,Y,Y,Y,Y,Y,Z,Z,Z,Z,Z,Z,Z,Z,Z,Z,Z,Z,Z] rfl rfl (any_of HT_.out (by kernel_rfl)) (fun _ _ _ h=>h) (Or.inr ⟨by rfl,rfl⟩) ?_ ?_;rotate_left
  ·simp only [Act.put,sIb,sZ,sS,i64_w,i32_w];rfl
  refine pure_ (i:=10) (N:=some 14) (v:=undef) (a':=?_) #[Y,Y,Y,Y,Y,Y,Y,Y,Y,Y,Y,Z,Z,Z,Z,Z,Z,Z,Z,Z,Z,Z,Z] rfl rfl (any_of HT_.out (by kernel_rfl)) (fun _ _ _ h=>h) (Or.inr ⟨by rfl,rfl⟩) ?_ ?_;rotate_left
  ·simp only [Act.put,sIb,sZ,sS,i64_w,i32_w];rfl
  refine pure_ (i:=11) (N:=some 15) (v:=undef) (a':=?_) #[Y,Y,Y,Y,Y,Y,Y,Y,Y,Y,Y,Y,Z,Z,Z,Z,Z,Z,Z,Z,Z,Z,Z] rfl rfl (any_of HT_.out (by kernel_rfl)) (fun _ _ _ h=>h) (Or.inr ⟨by rfl,rfl⟩) ?_ ?_;rotate_left
  ·simp only [Act.put,sIb,sZ,sS,i64_w,i32_w];rfl
  refine pure_ (i:=12) (N:=some 16) (v:=undef) (a':=?_) #[Y,Y,Y,Y,Y,Y,Y,Y,Y,Y,Y,Y,Y,Z,Z,Z,Z,Z,Z,Z,Z,Z,Z] rfl rfl (any_of HT_.out (by kernel_rfl)) (fun _ _ _ h=>h) (Or.inr ⟨by rfl,rfl⟩) ?_ ?_;rotate_left
  ·simp only [Act.put,sIb,sZ,sS,i64_w,i32_w];rfl
  refine pure_ (i:=13) (N:=some 17) (v:=undef) (a':=?_) #[Y,Y,Y,Y,Y,Y,Y,Y,Y,Y,Y,Y,Y,Y,Z,Z,Z,Z,Z,Z,Z,Z,Z] rfl rfl (any_of HT_.out (by kernel_rfl)) (fun _ _ _ h=>h) (Or.inr ⟨by rfl,rfl⟩) ?_ ?_;rotate_left
  ·simp only [Act.put,sIb,sZ,sS,i64_w,i32_w];rfl
  refine pure_ (i:=14) (N:=some 18) (v:=undef) (a':=?_) #[Y,Y,Y,Y,Y,Y,Y,Y,Y,Y,Y,Y,Y,Y,Y,Z,Z,Z,Z,Z,Z,Z,Z] rfl rfl (any_of HT_.out (by kernel_rfl)) (fun _ _ _ h=>h) (Or.inr ⟨by rfl,rfl⟩) ?_ ?_;rotate_left
  ·simp only [Act.put,sIb,sZ,sS,i64_w,i32_w];rfl
  refine pure_ (i:=15) (N:=some 19) (v:=undef) (a':=?_) #[Y,Y,Y,Y,Y,Y,Y,Y,Y,Y,Y,Y,Y,Y,Y,Y,Z,Z,Z,Z,Z,Z,Z] rfl rfl (any_of HT_.out (by kernel_rfl)) (fun _ _ _ h=>h) (Or.inr ⟨by rfl,rfl⟩) ?_ ?_;rotate_left
  ·simp only [Act.put,sIb,sZ,sS,i64_w,i32_w];rfl
  refine pure_ (i:=16) (N:=some 20) (v:=?_) (a':=?_) #[Y,Y,Y,Y,Y,Y,Y,Y,Y,Y,Y,Y,Y,Y,Y,Y,Y,Z,Z,Z,Z,Z,Z] rfl rfl (any_of HT_.out (by kernel_rfl)) (fun _ _ _ h=>h) (Or.inl ⟨by rfl,?_⟩) ?_ ?_;rotate_left
  ·intro w';go_simp;with_reducible rfl
  rotate_left
  ·simp only [Act.put,sIb,sZ,sS,i64_w,i32_w];rfl
  refine pure_ (i:=17) (N:=some 21) (v:=?_) (a':=?_) #[Y,Y,Y,Y,Y,Y,Y,Y,Y,Y,Y,Y,Y,Y,Y,Y,Y,Y,Z,Z,Z,Z,Z] rfl rfl (any_of HT_.out (by kernel_rfl)) (fun _ _ _ h=>h) (Or.inl ⟨by rfl,?_⟩) ?_ ?_;rotate_left
  ·intro w';go_simp;with_reducible rfl
  rotate_left
  ·simp only [Act.put,sIb,sZ,sS,i64_w,i32_w];rfl
  refine pure_ (i:=18) (N:=some 22) (v:=undef) (a':=?_) #[Y,Y,Y,Y,Y,Y,Y,Y,Y,Y,Y,Y,Y,Y,Y,Y,Y,Y,Y,Z,Z,Z,Z] rfl rfl (any_of HT_.out (by kernel_rfl)) (fun _ _ _ h=>h) (Or.inr ⟨by rfl,rfl⟩) ?_ ?_;rotate_left
  ·simp only [Act.put,sIb,sZ,sS,i64_w,i32_w];rfl
  refine pure_ (i:=19) (N:=some 23) (v:=undef) (a':=?_) #[Y,Y,Y,Y,Y,Y,Y,Y,Y,Y,Y,Y,Y,Y,Y,Y,Y,Y,Y,Y,Z,Z,Z] rfl rfl (any_of HT_.out (by kernel_rfl)) (fun _ _ _ h=>h) (Or.inr ⟨by rfl,rfl⟩) ?_ ?_;rotate_left
  ·simp only [Act.put,sIb,sZ,sS,i64_w,i32_w];rfl
  refine pure_ (i:=20) (N:=some 24) (v:=undef) (a':=?_) #[Y,Y,Y,Y,Y,Y,Y,Y,Y,Y,Y,Y,Y,Y,Y,Y,Y,Y,Y,Y,Y,Z,Z] rfl rfl (any_of HT_.out (by kernel_rfl)) (fun _ _ _ h=>h) (Or.inr ⟨by rfl,rfl⟩) ?_ ?_;rotate_left
  ·simp only [Act.put,sIb,sZ,sS,i64_w,i32_w];rfl
  refine pure_ (i:=21) (N:=some 25) (v:=?_) (a':=?_) #[Y,Y,Y,Y,Y,Y,Y,Y,Y,Y,Y,Y,Y,Y,Y,Y,Y,Y,Y,Y,Y,Y,Z] rfl rfl (any_of HT_.out (by kernel_rfl)) (fun _ _ _ h=>h) (Or.inl ⟨by rfl,?_⟩) ?_ ?_;rotate_left
  ·intro w';go_simp;with_reducible rfl
  rotate_left
  ·simp only [Act.put,sIb,sZ,sS,i64_w,i32_w];rfl
  refine pure_ (i:=22) (N:=some 3) (v:=?_) (a':=?_) #[Y,Y,Y,Y,Y,Y,Y,Y,Y,Y,Y,Y,Y,Y,Y,Y,Y,Y,Y,Y,Y,Y,Y] rfl rfl (any_of HT_.out (by kernel_rfl)) (fun _ _ _ h=>h) (Or.inl ⟨by rfl,?_⟩) ?_ ?_;rotate_left
  ·intro w';go_simp;with_reducible rfl
  rotate_left
  ·simp only [Act.put,sIb,sZ,sS,i64_w,i32_w];rfl
  refine done_ (done_of HT_.out (by kernel_rfl)) ?_;try go_wp2
  go_ret
  exact ⟨by rfl,by repeat (first|(with_reducible first|exact HB.out|apply qA|apply qD|apply qO|refine qS ?_ GE151.out|refine qS ?_ am.out)|exact HB.out)⟩

/-! ### areAll_impl_isQuery_1: function 120, handed function 160 -/
def areAll_impl_isQuery_1.f (l : List S97) (l90 : List Int) : Option Bool := if l.all (fun d => (impl_isQuery_1.f d.f0 d.f1 l90).isSome) = true then some (l.all (fun d => (impl_isQuery_1.f d.f0 d.f1 l90).getD false)) else none
theorem areAll_impl_isQuery_1.calls (A : Option Addr) (c : Nat) (l : List S97) (B0 : Nat) (ab : Option Addr) (ac : Nat) (aa : List Int) (r : Bool) (w : World) (hr : Kd.C k97 w A l.length l) (hc : l.length ≤ c) (hr90 : Kd.C (Kd.int .i64) w ab aa.length aa) (hc90 : aa.length ≤ ac) (hq0 : w.heap[B0]? = some (.cells #[.slice ab aa.length ac] 22 (0, 0))) (h : areAll_impl_isQuery_1.f l aa = some r) :
    Calls Try.prog 120 #[.slice A l.length c, .func (.func 160) #[] #[.pointer (some ⟨B0, 0, none⟩)]] w fun e w' => e = .returned (.bool r) ∧ Below w.heap.size w w' := by
  unfold areAll_impl_isQuery_1.f at h
  by_cases hs : l.all (fun d => (impl_isQuery_1.f d.f0 d.f1 aa).isSome) = true
  case neg => rw [if_neg hs] at h; cases h
  rw [if_pos hs] at h
  obtain rfl : l.all (fun d => (impl_isQuery_1.f d.f0 d.f1 aa).getD false) = r := Option.some.inj h
  refine areAll_Atom.calls A c l 160 _ _ w (enters_of Try.func160 (by kernel_rfl) rfl) hr ?_
  intro W d v hd hW hv
  obtain ⟨r_, hr_⟩ := Option.isSome_iff_exists.1 (List.all_eq_true.1 hs d hd)
  obtain ⟨cs, rfl, hK⟩ := hv
  obtain ⟨ag, ah, e_, ae, af⟩ := k97_open hK
  subst e_
  refine (impl_isQuery_1.calls (w := W) (hr0_1 := af) (hc0_1 := ae) (hr90 := Kd.C_below hr90 hW) (hc90 := hc90) (hq0 := blk_below hq0 hW) (h := hr_)).mono ?_
  rintro e w' ⟨rfl, hb⟩
  exact ⟨by show _ = Ending.returned (Value.bool ((impl_isQuery_1.f d.f0 d.f1 aa).getD false)); rw [hr_]; rfl, hb⟩

/-! ### impl_setOf: function 78 -/
def impl_setOf.l0 : Nat→Int→List Int→Int→Int→Option (Int)
 | 0,_,_,_,_=>none
 | k + 1,x3,x6,x7,x8=>if x8 < x7 then (if 0≤x8 then (if x8 < (x6.length:Int) then (if 0≤(rd x6 x8) then (impl_setOf.l0 k (Go.bits .or .i64 x3 (shl .i64 1 (rd x6 x8))) x6 x7 (wrap64 (x8 + 1))) else (none)) else (none)) else (none)) else (some x3)
def impl_setOf.f (k:Nat) (l0:List Int):Option (Int):=impl_setOf.l0 k 0 l0 (l0.length:Int) 0
theorem impl_setOf.mono_l : ∀ k,(∀ y0 y1 y2 y3,LeO (impl_setOf.l0 k y0 y1 y2 y3) (impl_setOf.l0 (k + 1) y0 y1 y2 y3))
 | 0=>fun _ _ _ _ r h=>by simp [impl_setOf.l0] at h
 | k + 1=>by
  have aa:=impl_setOf.mono_l k
  ·intro y0 y1 y2 y3;unfold impl_setOf.l0
   repeat' first
   | (with_reducible exact aa _ _ _ _)
   | (with_reducible exact LeO.refl _)
   | (with_reducible exact LeO.none _)
   | (with_reducible refine LeO.ite ?_ ?_)
   | (with_reducible refine LeO.bind ?_ (fun _=>?_))
   | exact aa _ _ _ _
   | exact LeO.none _
   | refine LeO.ite ?_ ?_
   | refine LeO.bind ?_ (fun _=>?_)
theorem impl_setOf.mono : ∀ a0 k,LeO (impl_setOf.f k a0) (impl_setOf.f (k + 1) a0):=by
 intro a0 k;have aa:=impl_setOf.mono_l k;unfold impl_setOf.f
 repeat' first
   | (with_reducible exact aa _ _ _ _)
   | (with_reducible exact LeO.refl _)
   | (with_reducible exact LeO.none _)
   | (with_reducible refine LeO.ite ?_ ?_)
   | (with_reducible refine LeO.bind ?_ (fun _=>?_))
   | exact aa _ _ _ _
   | exact LeO.none _
   | refine LeO.ite ?_ ?_
   | refine LeO.bind ?_ (fun _=>?_)
set_option maxHeartbeats 8000000 in
set_option maxRecDepth 100000 in
theorem impl_setOf.calls (k:Nat) (A0:Option Addr) (c0:Nat) (l0:List Int) (r:Int) (w:World) (hr0:Kd.C (Kd.int .i64) w A0 l0.length l0) (hc0:l0.length≤c0) (h:impl_setOf.f k l0=some r) :
  Calls Try.prog 78 #[.slice A0 l0.length c0] w fun e w'=>e=.returned (.int .i64 r)∧Drawn0 w w':=by
 have au:=qK hr0;have az:=qK hc0;clear hr0 hc0;have H:(impl_setOf.l0 k 0 l0 (l0.length:Int) 0)=some r:=h;clear h;have H':=qK H;clear H;go_enter Try.func78,Try.ntmps78
 go_wp2
 go_loopg [3,8] k (fun kq v3 v8 w'=>∃ (ab:Int) (aa:Int),v3=.int .i64 ab∧v8=.int .i64 aa∧Aside0 (impl_setOf.l0 kq ab l0 (l0.length:Int) aa=some r)∧Aside0 (kq≤k)∧Drawn0 w w')
 case atStart=>exact ⟨(0),(0),(by rfl),(by rfl),H',⟨Nat.le_refl _⟩,by repeat (first|exact Drawn0.refl _|apply Drawn0.step)⟩
 case round =>
  clear H';obtain ⟨ab,aa,rfl,rfl,HA,am,⟨m1,rfl⟩⟩:=hrel;cases gk with
  | zero=>exact absurd HA.out (by simp [impl_setOf.l0])
  | succ k1 =>
   have H:=HA.out;clear HA;simp only [impl_setOf.l0] at H;by_cases c2:aa < (l0.length:Int)
   ·rw [if_pos c2] at H;have ak:decide (aa < (l0.length:Int))=true:=decide_eq_true c2;clear c2;by_cases c3:0≤aa
    ·rw [if_pos c3] at H;have av:decide (0≤aa)=true:=decide_eq_true c3;clear c3;by_cases c4:aa < (l0.length:Int)
     ·rw [if_pos c4] at H;have aw:decide (aa < (l0.length:Int))=true:=decide_eq_true c4;clear c4;by_cases c5:0≤(rd l0 aa)
      ·rw [if_pos c5] at H;have ax:=eq_true c5;have ay:decide (0≤(rd l0 aa))=true:=decide_eq_true c5;clear c5;obtain ⟨ae,ac⟩:∃ j_:Int,(shl .i64 1 (rd l0 aa))=j_:=⟨_,rfl⟩;replace H:(impl_setOf.l0 k1 (Go.bits .or .i64 ab (ae)) l0 (l0.length:Int) (wrap64 (aa + 1)))=some r:=by first|(rw [ac] at H;exact H)|(simp only [ac] at H ⊢;exact H)
       have af:(IntKind.i64.wrap (1 * 2 ^ min (rd l0 aa).toNat 64))=ae:=ac;have ag:(rd l0 aa)≤64→(IntKind.i64.wrap (1 * 2 ^ (rd l0 aa).toNat))=ae:=shl_small ac;have an:(IntKind.i64.wrap (2 ^ min (rd l0 aa).toNat 64))=ae:=by have h_:=af;rw [Int.one_mul] at h_;exact h_
       have ao:(rd l0 aa)≤64→(IntKind.i64.wrap (2 ^ (rd l0 aa).toNat))=ae:=fun hle_=>by have h_:=ag hle_;rw [Int.one_mul] at h_;exact h_
       have ap:(wrap64 (1 * 2 ^ min (rd l0 aa).toNat 64))=ae:=(i64_w _).symm.trans af;have aq:(rd l0 aa)≤64→(wrap64 (1 * 2 ^ (rd l0 aa).toNat))=ae:=fun h_=>(i64_w _).symm.trans (ag h_)
       have H':=qK H;clear H;have ah:0≤(aa:Int):=of_decide_eq_true (by assumption);have ai:aa < (l0.length:Int):=of_decide_eq_true (by assumption);obtain ⟨ar,al,aj⟩:=Kd.at_int au.out aa ah ai;cases al
       replace ah:=eq_true ah;replace ai:=eq_true ai;go_wp2
       go_roundg k1
       case measure=>have:=am.out;omega
       case rel=>exact ⟨(Go.bits .or .i64 ab (ae)),(wrap64 (aa + 1)),(by first|rfl|(simp;done)|(simp only [← ac] <;> (first|rfl|simp))|(simp [*];done)),(by rfl),H',⟨by have:=am.out;omega⟩,by repeat (first|exact Drawn0.refl _|apply Drawn0.step)⟩
      ·rw [if_neg c5] at H;exact absurd H (by simp)
     ·rw [if_neg c4] at H;exact absurd H (by simp)
    ·rw [if_neg c3] at H;exact absurd H (by simp)
   ·rw [if_neg c2] at H;have ak:decide (aa < (l0.length:Int))=false:=decide_eq_false c2;clear c2;obtain rfl:=Option.some.inj H;go_wp2
    go_ret
    exact ⟨by first|rfl|(simp;done)|(simp [*];done),by repeat (first|exact Drawn0.refl _|apply Drawn0.step)⟩

/-! ### impl_set_list: function 79 -/
def impl_set_list.l0 : Nat→Int→List Int→Int→Option (List Int)
 | 0,_,_,_=>none
 | k + 1,x0,x3,x4=>if 0≤x4 then (if (shr .i64 x0 x4)=0 then (some x3) else (if (Go.bits .and .i64 (shr .i64 x0 x4) 1)=1 then (if x3.length < 17592186044416 then (impl_set_list.l0 k x0 (x3 ++ [x4]) (wrap64 (x4 + 1))) else (none)) else (impl_set_list.l0 k x0 x3 (wrap64 (x4 + 1))))) else (none)
def impl_set_list.f (k:Nat) (a0:Int):Option (List Int):=impl_set_list.l0 k a0 ([]:List Int) 0
theorem impl_set_list.mono_l : ∀ k,(∀ y0 y1 y2,LeO (impl_set_list.l0 k y0 y1 y2) (impl_set_list.l0 (k + 1) y0 y1 y2))
 | 0=>fun _ _ _ r h=>by simp [impl_set_list.l0] at h
 | k + 1=>by
  have aa:=impl_set_list.mono_l k
  ·intro y0 y1 y2;unfold impl_set_list.l0
   repeat' first
   | (with_reducible exact aa _ _ _)
   | (with_reducible exact LeO.refl _)
   | (with_reducible exact LeO.none _)
   | (with_reducible refine LeO.ite ?_ ?_)
   | (with_reducible refine LeO.bind ?_ (fun _=>?_))
   | exact aa _ _ _
   | exact LeO.none _
   | refine LeO.ite ?_ ?_
   | refine LeO.bind ?_ (fun _=>?_)
theorem impl_set_list.mono : ∀ a0 k,LeO (impl_set_list.f k a0) (impl_set_list.f (k + 1) a0):=by
 intro a0 k;have aa:=impl_set_list.mono_l k;unfold impl_set_list.f
 repeat' first
   | (with_reducible exact aa _ _ _)
   | (with_reducible exact LeO.refl _)
   | (with_reducible exact LeO.none _)
   | (with_reducible refine LeO.ite ?_ ?_)
   | (with_reducible refine LeO.bind ?_ (fun _=>?_))
   | exact aa _ _ _
   | exact LeO.none _
   | refine LeO.ite ?_ ?_
   | refine LeO.bind ?_ (fun _=>?_)
set_option maxHeartbeats 8000000 in
set_option maxRecDepth 100000 in
theorem impl_set_list.calls (k:Nat) (a0:Int) (r:List Int) (w:World) (h:impl_set_list.f k a0=some r) :
  Calls Try.prog 79 #[.int .i64 a0] w fun e w'=>∃ ar:Value,e=.returned (ar)∧Kd.R (Kd.int .i64) 3 w' w.heap.size (fun _=>True) ar r∧Below w.heap.size w w':=by
 have HB:=qK (Below.refl w.heap.size w);have H:(impl_set_list.l0 k a0 ([]:List Int) 0)=some r:=h;clear h;have H':=qK H;clear H;go_enter Try.func79,Try.ntmps79
 go_wp2
 go_loopg [3,4] k (fun kq v3 v4 w'=>∃ (ab:List Int) (aa:Int),v4=.int .i64 aa∧Aside0 (impl_set_list.l0 kq a0 ab aa=some r)∧Aside0 (kq≤k)∧Aside0 (Kd.R (Kd.int .i64) 3 w' w.heap.size (fun _=>True) v3 ab)∧Aside0 (Below w.heap.size w w'))
 case atStart=>exact ⟨(([]:List Int)),(0),(by rfl),H',⟨Nat.le_refl _⟩,⟨by first|exact Kd.R_nil _ _ _ _ _|exact Kd.N_nil _ _ _ _ _|exact Kd.V_nil _ _ _ _ _|exact Kd.Q_nil _ _ _ _ _|exact Kd.S_nil _ _ _ _ _⟩,⟨HB.out⟩⟩
 case round =>
  clear H';obtain ⟨ab,aa,rfl,HA,ak,ag,HB⟩:=hrel;cases gk with
  | zero=>exact absurd HA.out (by simp [impl_set_list.l0])
  | succ k1 =>
   have H:=HA.out;clear HA;simp only [impl_set_list.l0] at H;by_cases c2:0≤aa
   ·rw [if_pos c2] at H;have ay:=eq_true c2;have az:decide (0≤aa)=true:=decide_eq_true c2;clear c2;obtain ⟨ae,af⟩:∃ j_:Int,(shr .i64 a0 aa)=j_:=⟨_,rfl⟩;replace H:(if (ae)=0 then (some ab) else (if (Go.bits .and .i64 (ae) 1)=1 then (if ab.length < 17592186044416 then (impl_set_list.l0 k1 a0 (ab ++ [aa]) (wrap64 (aa + 1))) else (none)) else (impl_set_list.l0 k1 a0 ab (wrap64 (aa + 1)))))=some r:=by first|(rw [af] at H;exact H)|(simp only [af] at H ⊢;exact H)
    have au:(a0 / 2 ^ min aa.toNat 64)=ae:=af;have av:aa≤64→(a0 / 2 ^ aa.toNat)=ae:=shr_small af;by_cases c4:(ae)=0
    ·rw [if_pos c4] at H;have al:((ae) == 0)=true:=beq_iff_eq.mpr c4;have am:((ae) != 0)=false:=bne_eq_false_iff_eq.mpr c4;clear c4;obtain rfl:=Option.some.inj H;go_wp2
     go_ret
     exact ⟨_,by first|rfl|(simp [errW_none,errW_some] <;> rfl)|(simp only [← af];first|rfl|(simp [errW_none,errW_some] <;> rfl))|(simp [*,errW_none,errW_some] <;> rfl),ag.out,HB.out⟩
    ·rw [if_neg c4] at H;have al:((ae) == 0)=false:=beq_eq_false_iff_ne.mpr c4;have am:((ae) != 0)=true:=bne_iff_ne.mpr c4;have aA:=eq_true (of_decide_eq_true (by assumption):0≤aa);by_cases c6:(Go.bits .and .i64 (ae) 1)=1
     ·rw [if_pos c6] at H;have an:((Go.bits .and .i64 (ae) 1) == 1)=true:=beq_iff_eq.mpr c6;have ao:((Go.bits .and .i64 (ae) 1) != 1)=false:=bne_eq_false_iff_eq.mpr c6;clear c6;by_cases c7:ab.length < 17592186044416
      ·rw [if_pos c7] at H;have ap:=qK c7;clear c7;obtain ⟨ah,ac⟩:∃ y_:List Int,y_=(ab ++ [aa]):=⟨_,rfl⟩;replace H:(impl_set_list.l0 k1 a0 ah (wrap64 (aa + 1)))=some r:=by first|(rw [ac];with_reducible exact H)|(have aq:=(Option.bind_some _ _).symm.trans H;rw [ac];with_reducible exact aq)|(have aq:=(Option.bind_some _ _).symm.trans H;with_reducible exact aq)|with_reducible exact H|(rw [ac];exact H)|exact H
       have ai:=qK ac;clear ac;have H':=qK H;clear H;go_wp2_with (first|((with_reducible refine gate_builtin (b:=.append) (xs:=#[.tmp 16,.tmp 18]) rfl ?_);at_builtin;refine Kd.R_append (Kd.int .i64) (w0:=w) w.heap.size rfl (.tmp 16) (.tmp 18) 22 3 (.int .i64 0) 8 rfl Try.underlying22 info3 rfl (by decide) (by omega) u3 ab aa [.int .i64 aa] (fun _=>True) (fun _=>False) rfl rfl ?aP (fun _ hk=>hk.elim) ?aF ?aO ?aB ?aS ?aL ?_;(case aP=>exact rfl);(case aB=>exact HB.out);(case aF=>exact (fun _ _=>trivial));(case aO=>exact ag.out);(case aS=>exact (qZ HB.out));(case aL=>have:=ap.out;omega);intro aC w8 ho hb hg hat;rw [← ai.out] at ho;have aw:=qK (hb);have ax:=qK (ho);clear HB ag;have HB:=aw;have aj:=ax;clear aw ax;clear ho hb hg hat))
       go_roundg k1
       case measure=>have:=ak.out;omega
       case rel=>exact ⟨(ah),(wrap64 (aa + 1)),(by rfl),H',⟨by have:=ak.out;omega⟩,⟨aj.out⟩,⟨HB.out⟩⟩
      ·rw [if_neg c7] at H;exact absurd H (by simp)
     ·rw [if_neg c6] at H;have an:((Go.bits .and .i64 (ae) 1) == 1)=false:=beq_eq_false_iff_ne.mpr c6;have ao:((Go.bits .and .i64 (ae) 1) != 1)=true:=bne_iff_ne.mpr c6;have H':=qK H;clear H;go_wp2
      go_roundg k1
      case measure=>have:=ak.out;omega
      case rel=>exact ⟨(ab),(wrap64 (aa + 1)),(by rfl),H',⟨by have:=ak.out;omega⟩,⟨ag.out⟩,⟨HB.out⟩⟩
   ·rw [if_neg c2] at H;exact absurd H (by simp)

/-! ### impl_vars: function 123 -/
def impl_vars.l0 : Nat→Int→List (S97)→Int→Int→Option (List Int)
 | 0,_,_,_,_=>none
 | k + 1,x3,x6,x7,x8=>if x8 < x7 then (if 0≤x8 then (if x8 < (x6.length:Int) then ((impl_setOf.f k ((rd_T97 x6 x8).f1)).bind fun t162=>(impl_vars.l0 k (Go.bits .or .i64 x3 t162) x6 x7 (wrap64 (x8 + 1)))) else (none)) else (none)) else ((impl_set_list.f k x3).bind fun t163=>(some t163))
def impl_vars.f (k:Nat) (l0:List (S97)):Option (List Int):=impl_vars.l0 k 0 l0 (l0.length:Int) 0
theorem impl_vars.mono_l : ∀ k,(∀ y0 y1 y2 y3,LeO (impl_vars.l0 k y0 y1 y2 y3) (impl_vars.l0 (k + 1) y0 y1 y2 y3))
 | 0=>fun _ _ _ _ r h=>by simp [impl_vars.l0] at h
 | k + 1=>by
  have aa:=impl_vars.mono_l k
  ·intro y0 y1 y2 y3;unfold impl_vars.l0
   repeat' first
   | (with_reducible exact aa _ _ _ _)
   | (with_reducible exact impl_setOf.mono _ _)
   | (with_reducible exact impl_set_list.mono _ _)
   | (with_reducible exact LeO.refl _)
   | (with_reducible exact LeO.none _)
   | (with_reducible refine LeO.ite ?_ ?_)
   | (with_reducible refine LeO.bind ?_ (fun _=>?_))
   | exact aa _ _ _ _
   | exact impl_setOf.mono _ _
   | exact impl_set_list.mono _ _
   | exact LeO.none _
   | refine LeO.ite ?_ ?_
   | refine LeO.bind ?_ (fun _=>?_)
theorem impl_vars.mono : ∀ a0 k,LeO (impl_vars.f k a0) (impl_vars.f (k + 1) a0):=by
 intro a0 k;have aa:=impl_vars.mono_l k;unfold impl_vars.f
 repeat' first
   | (with_reducible exact aa _ _ _ _)
   | (with_reducible exact impl_setOf.mono _ _)
   | (with_reducible exact impl_set_list.mono _ _)
   | (with_reducible exact LeO.refl _)
   | (with_reducible exact LeO.none _)
   | (with_reducible refine LeO.ite ?_ ?_)
   | (with_reducible refine LeO.bind ?_ (fun _=>?_))
   | exact aa _ _ _ _
   | exact impl_setOf.mono _ _
   | exact impl_set_list.mono _ _
   | exact LeO.none _
   | refine LeO.ite ?_ ?_
   | refine LeO.bind ?_ (fun _=>?_)
set_option maxHeartbeats 8000000 in
set_option maxRecDepth 100000 in
theorem impl_vars.calls (k:Nat) (A0:Option Addr) (c0:Nat) (l0:List (S97)) (r:List Int) (w:World) (hr0:Kd.C k97 w A0 l0.length l0) (hc0:l0.length≤c0) (h:impl_vars.f k l0=some r) :
  Calls Try.prog 123 #[.slice A0 l0.length c0] w fun e w'=>∃ aG:Value,e=.returned (aG)∧Kd.R (Kd.int .i64) 3 w' w.heap.size (fun _=>True) aG r∧Below w.heap.size w w':=by
 have aQ:=Try.underlying97;have aR:=qK hr0;have aW:=qK hc0;clear hr0 hc0;have HB:=qK (Below.refl w.heap.size w);have H:(impl_vars.l0 k 0 l0 (l0.length:Int) 0)=some r:=h;clear h;have H':=qK H;clear H;go_enter Try.func123,Try.ntmps123
 go_wp2
 go_loopg [3,8] k (fun kq v3 v8 w'=>∃ (ae:Int) (aa:Int),v3=.int .i64 ae∧v8=.int .i64 aa∧Aside0 (impl_vars.l0 kq ae l0 (l0.length:Int) aa=some r)∧Aside0 (kq≤k)∧Aside0 (Below w.heap.size w w'))
 case atStart=>exact ⟨(0),(0),(by rfl),(by rfl),H',⟨Nat.le_refl _⟩,⟨HB.out⟩⟩
 case round =>
  clear H';try clear c1
  obtain ⟨ae,aa,rfl,rfl,HA,aH,HB⟩:=hrel;cases gk with
  | zero=>exact absurd HA.out (by simp [impl_vars.l0])
  | succ k1 =>
   have H:=HA.out;clear HA;simp only [impl_vars.l0] at H;by_cases c2:aa < (l0.length:Int)
   ·rw [if_pos c2] at H;have ax:decide (aa < (l0.length:Int))=true:=decide_eq_true c2;clear c2;by_cases c3:0≤aa
    ·rw [if_pos c3] at H;have aT:decide (0≤aa)=true:=decide_eq_true c3;clear c3;by_cases c4:aa < (l0.length:Int)
     ·rw [if_pos c4] at H;have aU:decide (aa < (l0.length:Int))=true:=decide_eq_true c4;clear c4;replace H:=Option.bind_eq_some_iff.mp H;obtain ⟨am,aI,H⟩:=H;replace H:(impl_vars.l0 k1 (Go.bits .or .i64 ae am) l0 (l0.length:Int) (wrap64 (aa + 1)))=some r:=H;have A5:=qK aI;clear aI;have H':=qK H;clear H;have an:0≤(aa:Int):=of_decide_eq_true (by assumption);have ao:aa < (l0.length:Int):=of_decide_eq_true (by assumption);obtain ⟨aJ,ap,aq,ay,ab,ac,af,ag⟩:=at_T97 aR.out aa an ao;cases ay
      replace ab:=(HB.out.cell (World.block_lt_of_cell? w _ ab)).trans ab;replace ac:=(HB.out.cell (World.block_lt_of_cell? w _ ac)).trans ac;have aj:=qK ag;have ak:=qK af;clear ag af;replace an:=eq_true an;replace ao:=eq_true ao;go_wp2_with (first|((with_reducible refine gate_dst (N:=5) rfl ?_);refine box_event ?hg (N:=5) ?hd (cs:=#[.int .i64 0,.slice none 0 0]) (t:=97) ?hr ?_;(case hd=>rfl);(case hg=>rfl);(case hr=>(go_simp;try rfl));intro ai hg w6 hbox hb;have ar:=qK (qT HB.out hb);have au:=qK (hbox);have az:=qK ((by rw [hg];exact (qZ HB.out):w.heap.size≤ai));have aK:=az;clear HB;have HB:=ar;have ah:=au;have aM:=az;have al:=aK;clear ar au az aK hb hbox hg;have aA:w6.cell? ⟨ai,0,none⟩=some (.int .i64 0):=(qC ah.out 0).trans rfl;have aC:w6.cell? ⟨ai,1,none⟩=some (.slice none 0 0):=(qC ah.out 1).trans rfl;have aD:=qF ah.out 0;have aE:=qF ah.out 1)|((with_reducible refine gate_callee (f:=78) rfl ?_);refine goesL_ (some 15) rfl rfl Try.func78 (by kernel_rfl) rfl #[.slice ap ((rd_T97 l0 aa).f1).length aq] rfl (by (try simp only [mT,mC,mN]);first|done|rfl|(simp only [lD,lT];rfl)) ?_;(with_reducible refine (impl_setOf.calls k1 _ _ ((rd_T97 l0 aa).f1) am _ ?side1 ?side2 A5.out).mono ?_);(case side1=>exact cB aj.out (by repeat (with_reducible first|exact HB.out|apply qA|apply qD|apply qO|refine qS ?_ al.out)));(case side2=>exact ak.out);rintro e w' ⟨rfl,⟨nd,rfl⟩⟩;refine ⟨_,rfl,?_⟩))
      go_roundg k1
      case measure=>have:=aH.out;omega
      case rel=>exact ⟨(Go.bits .or .i64 ae am),(wrap64 (aa + 1)),(by rfl),(by rfl),H',⟨by have:=aH.out;omega⟩,⟨by repeat (first|(with_reducible first|exact HB.out|apply qA|apply qD|apply qO|refine qS ?_ al.out)|exact HB.out)⟩⟩
     ·rw [if_neg c4] at H;exact absurd H (by simp)
    ·rw [if_neg c3] at H;exact absurd H (by simp)
   ·rw [if_neg c2] at H;have ax:decide (aa < (l0.length:Int))=false:=decide_eq_false c2;clear c2;replace H:=Option.bind_eq_some_iff.mp H;obtain ⟨av,aN,H⟩:=H;replace H:(some av)=some r:=H;have A8:=qK aN;clear aN;obtain rfl:=Option.some.inj H;go_wp2_with (first|((with_reducible refine gate_callee (f:=79) rfl ?_);refine goesL_ (some 19) rfl rfl Try.func79 (by kernel_rfl) rfl #[.int .i64 ae] rfl (by (try simp only [mT,mC,mN]);first|done|rfl|(simp only [lD,lT];rfl)) ?_;(with_reducible refine (impl_set_list.calls k1 ae av _ A8.out).mono ?_);rintro e w9 ⟨aV,rfl,ho0,hb⟩;refine ⟨_,rfl,?_⟩;have ar:=qK (Kd.R_lower ho0 (qZ HB.out));have au:=qK (qT HB.out hb);clear HB;have aw:=ar;have HB:=au;clear ar au;(try clear hb);(try clear ho0)))
    go_ret
    exact ⟨_,by rfl,aw.out,HB.out⟩

/-! ### slices_Index_int_int: function 202 -/
def slices_Index_int_int.l0 : Nat→List Int→Int→Int→Int→Option (Int)
 | 0,_,_,_,_=>none
 | k + 1,x0,x1,x7,x8=>if x8 < x7 then (if 0≤x8 then (if x8 < (x0.length:Int) then (if x1=(rd x0 x8) then (some x8) else (slices_Index_int_int.l0 k x0 x1 x7 (wrap64 (x8 + 1)))) else (none)) else (none)) else (some (-1))
def slices_Index_int_int.f (k:Nat) (l0:List Int) (a1:Int):Option (Int):=slices_Index_int_int.l0 k l0 a1 (l0.length:Int) 0
theorem slices_Index_int_int.mono_l : ∀ k,(∀ y0 y1 y2 y3,LeO (slices_Index_int_int.l0 k y0 y1 y2 y3) (slices_Index_int_int.l0 (k + 1) y0 y1 y2 y3))
 | 0=>fun _ _ _ _ r h=>by simp [slices_Index_int_int.l0] at h
 | k + 1=>by
  have aa:=slices_Index_int_int.mono_l k
  ·intro y0 y1 y2 y3;unfold slices_Index_int_int.l0
   repeat' first
   | (with_reducible exact aa _ _ _ _)
   | (with_reducible exact LeO.refl _)
   | (with_reducible exact LeO.none _)
   | (with_reducible refine LeO.ite ?_ ?_)
   | (with_reducible refine LeO.bind ?_ (fun _=>?_))
   | exact aa _ _ _ _
   | exact LeO.none _
   | refine LeO.ite ?_ ?_
   | refine LeO.bind ?_ (fun _=>?_)
theorem slices_Index_int_int.mono : ∀ a0 a1 k,LeO (slices_Index_int_int.f k a0 a1) (slices_Index_int_int.f (k + 1) a0 a1):=by
 intro a0 a1 k;have aa:=slices_Index_int_int.mono_l k;unfold slices_Index_int_int.f
 repeat' first
   | (with_reducible exact aa _ _ _ _)
   | (with_reducible exact LeO.refl _)
   | (with_reducible exact LeO.none _)
   | (with_reducible refine LeO.ite ?_ ?_)
   | (with_reducible refine LeO.bind ?_ (fun _=>?_))
   | exact aa _ _ _ _
   | exact LeO.none _
   | refine LeO.ite ?_ ?_
   | refine LeO.bind ?_ (fun _=>?_)
set_option maxHeartbeats 8000000 in
set_option maxRecDepth 100000 in
theorem slices_Index_int_int.calls (k:Nat) (A0:Option Addr) (c0:Nat) (l0:List Int) (a1:Int) (r:Int) (w:World) (hr0:Kd.C (Kd.int .i64) w A0 l0.length l0) (hc0:l0.length≤c0) (h:slices_Index_int_int.f k l0 a1=some r) :
  Calls Try.prog 202 #[.slice A0 l0.length c0,.int .i64 a1] w fun e w'=>e=.returned (.int .i64 r)∧Drawn0 w w':=by
 have ak:=qK hr0;have ao:=qK hc0;clear hr0 hc0;have H:(slices_Index_int_int.l0 k l0 a1 (l0.length:Int) 0)=some r:=h;clear h;have H':=qK H;clear H;go_enter Try.func202,Try.ntmps202
 go_wp2
 go_loopg [8] k (fun kq v8 w'=>∃ (aa:Int),v8=.int .i64 aa∧Aside0 (slices_Index_int_int.l0 kq l0 a1 (l0.length:Int) aa=some r)∧Aside0 (kq≤k)∧Drawn0 w w')
 case atStart=>exact ⟨(0),(by rfl),H',⟨Nat.le_refl _⟩,by repeat (first|exact Drawn0.refl _|apply Drawn0.step)⟩
 case round =>
  clear H';try clear c2
  try clear p2
  obtain ⟨aa,rfl,HA,al,⟨m1,rfl⟩⟩:=hrel;cases gk with
  | zero=>exact absurd HA.out (by simp [slices_Index_int_int.l0])
  | succ k1 =>
   have H:=HA.out;clear HA;simp only [slices_Index_int_int.l0] at H;by_cases c3:aa < (l0.length:Int)
   ·rw [if_pos c3] at H;have ah:decide (aa < (l0.length:Int))=true:=decide_eq_true c3;clear c3;by_cases c4:0≤aa
    ·rw [if_pos c4] at H;have am:decide (0≤aa)=true:=decide_eq_true c4;clear c4;by_cases c5:aa < (l0.length:Int)
     ·rw [if_pos c5] at H;have an:decide (aa < (l0.length:Int))=true:=decide_eq_true c5;clear c5;by_cases c6:a1=(rd l0 aa)
      ·rw [if_pos c6] at H;have ai:(a1 == (rd l0 aa))=true:=beq_iff_eq.mpr c6;have aj:(a1 != (rd l0 aa))=false:=bne_eq_false_iff_eq.mpr c6;clear c6;obtain rfl:=Option.some.inj H;have ab:0≤(aa:Int):=of_decide_eq_true (by assumption);have ac:aa < (l0.length:Int):=of_decide_eq_true (by assumption);obtain ⟨ag,af,ae⟩:=Kd.at_int ak.out aa ab ac;cases af
       replace ab:=eq_true ab;replace ac:=eq_true ac;go_wp2
       go_ret
       exact ⟨by first|rfl|(simp;done)|(simp [*];done),by repeat (first|exact Drawn0.refl _|apply Drawn0.step)⟩
      ·rw [if_neg c6] at H;have ai:(a1 == (rd l0 aa))=false:=beq_eq_false_iff_ne.mpr c6;have aj:(a1 != (rd l0 aa))=true:=bne_iff_ne.mpr c6;have H':=qK H;clear H;have ab:0≤(aa:Int):=of_decide_eq_true (by assumption);have ac:aa < (l0.length:Int):=of_decide_eq_true (by assumption);obtain ⟨ag,af,ae⟩:=Kd.at_int ak.out aa ab ac;cases af
       replace ab:=eq_true ab;replace ac:=eq_true ac;go_wp2
       go_roundg k1
       case measure=>have:=al.out;omega
       case rel=>exact ⟨(wrap64 (aa + 1)),(by rfl),H',⟨by have:=al.out;omega⟩,by repeat (first|exact Drawn0.refl _|apply Drawn0.step)⟩
     ·rw [if_neg c5] at H;exact absurd H (by simp)
    ·rw [if_neg c4] at H;exact absurd H (by simp)
   ·rw [if_neg c3] at H;have ah:decide (aa < (l0.length:Int))=false:=decide_eq_false c3;clear c3;obtain rfl:=Option.some.inj H;go_wp2
    go_ret
    exact ⟨by first|rfl|(simp;done)|(simp [*];done),by repeat (first|exact Drawn0.refl _|apply Drawn0.step)⟩

/-! ### slices_Contains_int_int: function 192 -/
def slices_Contains_int_int.f (k:Nat) (l0:List Int) (a1:Int):Option (Bool):=(slices_Index_int_int.f k l0 a1).bind fun t167=>(some (decide (t167 ≥ 0)))
theorem slices_Contains_int_int.mono : ∀ a0 a1 k,LeO (slices_Contains_int_int.f k a0 a1) (slices_Contains_int_int.f (k + 1) a0 a1):=by
 intro a0 a1 k;unfold slices_Contains_int_int.f
 repeat' first
   | (with_reducible exact slices_Index_int_int.mono _ _ _)
   | (with_reducible exact LeO.refl _)
   | (with_reducible exact LeO.none _)
   | (with_reducible refine LeO.ite ?_ ?_)
   | (with_reducible refine LeO.bind ?_ (fun _=>?_))
   | exact slices_Index_int_int.mono _ _ _
   | exact LeO.none _
   | refine LeO.ite ?_ ?_
   | refine LeO.bind ?_ (fun _=>?_)
set_option maxHeartbeats 8000000 in
set_option maxRecDepth 100000 in
theorem slices_Contains_int_int.calls (k:Nat) (A0:Option Addr) (c0:Nat) (l0:List Int) (a1:Int) (r:Bool) (w:World) (hr0:Kd.C (Kd.int .i64) w A0 l0.length l0) (hc0:l0.length≤c0) (h:slices_Contains_int_int.f k l0 a1=some r) :
  Calls Try.prog 192 #[.slice A0 l0.length c0,.int .i64 a1] w fun e w'=>e=.returned (.bool r)∧Drawn0 w w':=by
 have ac:=qK hr0;have ae:=qK hc0;clear hr0 hc0;have H:((slices_Index_int_int.f k l0 a1).bind fun aa=>(some (decide (aa ≥ 0))))=some r:=h;clear h;replace H:=Option.bind_eq_some_iff.mp H;obtain ⟨aa,ab,H⟩:=H;replace H:(some (decide (aa ≥ 0)))=some r:=H;have A3:=qK ab;clear ab;obtain rfl:=Option.some.inj H;go_enter Try.func192,Try.ntmps192
 go_wp2_with (first|((with_reducible refine gate_callee (f:=202) rfl ?_);refine goesL_ (some 7) rfl rfl Try.func202 (by kernel_rfl) rfl #[.slice A0 l0.length c0,.int .i64 a1] rfl (by (try simp only [mT,mC,mN]);first|done|rfl|(simp only [lD,lT];rfl)) ?_;(with_reducible refine (slices_Index_int_int.calls k _ _ l0 a1 aa _ ?side1 ?side2 A3.out).mono ?_);(case side1=>exact ac.out);(case side2=>exact ae.out);rintro e w' ⟨rfl,⟨nd,rfl⟩⟩;refine ⟨_,rfl,?_⟩))
 go_ret
 exact ⟨by first|rfl|(simp;done)|(simp [*];done),by repeat (first|exact Drawn0.refl _|apply Drawn0.step)⟩

/-! ### impl_isHead_1: function 191 -/
def impl_isHead_1.f (k:Nat) (a0:Int) (l90:List Int):Option (Bool):=(slices_Contains_int_int.f k l90 a0).bind fun t169=>(some t169)
theorem impl_isHead_1.mono : ∀ a0 a1 k,LeO (impl_isHead_1.f k a0 a1) (impl_isHead_1.f (k + 1) a0 a1):=by
 intro a0 a1 k;unfold impl_isHead_1.f
 repeat' first
   | (with_reducible exact slices_Contains_int_int.mono _ _ _)
   | (with_reducible exact LeO.refl _)
   | (with_reducible exact LeO.none _)
   | (with_reducible refine LeO.ite ?_ ?_)
   | (with_reducible refine LeO.bind ?_ (fun _=>?_))
   | exact slices_Contains_int_int.mono _ _ _
   | exact LeO.none _
   | refine LeO.ite ?_ ?_
   | refine LeO.bind ?_ (fun _=>?_)
set_option maxHeartbeats 8000000 in
set_option maxRecDepth 100000 in
theorem impl_isHead_1.calls (k:Nat) (a0:Int) (B0:Nat) (ae:Option Addr) (af:Nat) (aa:List Int) (r:Bool) (w:World) (hr90:Kd.C (Kd.int .i64) w ae aa.length aa) (hc90:aa.length≤af) (hq0:w.heap[B0]?=some (.cells #[.slice ae aa.length af] 22 (0,0))) (h:impl_isHead_1.f k a0 aa=some r) :
  Calls Try.prog 191 #[.int .i64 a0,.pointer (some ⟨B0,0,none⟩)] w fun e w'=>e=.returned (.bool r)∧Drawn0 w w':=by
 have ag:=qK hr90;have ah:=qK hc90;clear hr90 hc90;have ac:=qK hq0;clear hq0;have H:((slices_Contains_int_int.f k aa a0).bind fun ab=>(some ab))=some r:=h;clear h;replace H:=Option.bind_eq_some_iff.mp H;obtain ⟨ab,ak,H⟩:=H;replace H:(some ab)=some r:=H;have A2:=qK ak;clear ak;obtain rfl:=Option.some.inj H;have ai:w.cell? ⟨B0,0,none⟩=some (.slice ae aa.length af):=(qC ac.out 0).trans rfl;have aj:=qF ac.out 0;go_enter Try.func191,Try.ntmps191
 go_wp2_with (first|((with_reducible refine gate_callee (f:=192) rfl ?_);refine goesL_ (some 6) rfl rfl Try.func192 (by kernel_rfl) rfl #[.slice ae aa.length af,.int .i64 a0] rfl (by (try simp only [mT,mC,mN]);first|done|rfl|(simp only [lD,lT];rfl)) ?_;(with_reducible refine (slices_Contains_int_int.calls k _ _ aa a0 ab _ ?side1 ?side2 A2.out).mono ?_);(case side1=>exact ag.out);(case side2=>exact ah.out);rintro e w' ⟨rfl,⟨nd,rfl⟩⟩;refine ⟨_,rfl,?_⟩))
 go_ret
 exact ⟨by first|rfl|(simp;done)|(simp [*];done),by repeat (first|exact Drawn0.refl _|apply Drawn0.step)⟩

/-! ### areAll_impl_isHead_1: function 106, handed function 191 -/
def areAll_impl_isHead_1.f (k : Nat) (l : List Int) (l90 : List Int) : Option Bool := if l.all (fun d => (impl_isHead_1.f k d l90).isSome) = true then some (l.all (fun d => (impl_isHead_1.f k d l90).getD false)) else none
theorem areAll_impl_isHead_1.mono : ∀ ab ac k, LeO (areAll_impl_isHead_1.f k ab ac) (areAll_impl_isHead_1.f (k + 1) ab ac) := by
  intro l aa k r h
  unfold areAll_impl_isHead_1.f at h ⊢
  by_cases hs : l.all (fun d => (impl_isHead_1.f k d aa).isSome) = true
  case neg => rw [if_neg hs] at h; cases h
  rw [if_pos hs] at h
  have hx : ∀ d ∈ l, impl_isHead_1.f (k + 1) d aa = impl_isHead_1.f k d aa := by
    intro d hd
    obtain ⟨r, hr⟩ := Option.isSome_iff_exists.1 (List.all_eq_true.1 hs d hd)
    rw [hr]; exact impl_isHead_1.mono _ _ k r hr
  rw [if_pos (List.all_eq_true.2 fun d hd => by rw [hx d hd]; exact List.all_eq_true.1 hs d hd), ← h]
  congr 1
  exact all_same fun d hd => by rw [hx d hd]
theorem areAll_impl_isHead_1.calls (k : Nat) (A : Option Addr) (c : Nat) (l : List Int) (B0 : Nat) (ab : Option Addr) (ac : Nat) (aa : List Int) (r : Bool) (w : World) (hr : Kd.C (Kd.int .i64) w A l.length l) (hc : l.length ≤ c) (hr90 : Kd.C (Kd.int .i64) w ab aa.length aa) (hc90 : aa.length ≤ ac) (hq0 : w.heap[B0]? = some (.cells #[.slice ab aa.length ac] 22 (0, 0))) (h : areAll_impl_isHead_1.f k l aa = some r) :
    Calls Try.prog 106 #[.slice A l.length c, .func (.func 191) #[] #[.pointer (some ⟨B0, 0, none⟩)]] w fun e w' => e = .returned (.bool r) ∧ Below w.heap.size w w' := by
  unfold areAll_impl_isHead_1.f at h
  by_cases hs : l.all (fun d => (impl_isHead_1.f k d aa).isSome) = true
  case neg => rw [if_neg hs] at h; cases h
  rw [if_pos hs] at h
  obtain rfl : l.all (fun d => (impl_isHead_1.f k d aa).getD false) = r := Option.some.inj h
  refine areAll_Int.calls A c l 191 _ _ w (enters_of Try.func191 (by kernel_rfl) rfl) hr ?_
  intro W d v hd hW hv
  obtain ⟨r_, hr_⟩ := Option.isSome_iff_exists.1 (List.all_eq_true.1 hs d hd)
  obtain rfl : v = .int .i64 d := by simpa using (List.cons.inj hv).1
  refine (impl_isHead_1.calls (w := W) (hr90 := Kd.C_below hr90 hW) (hc90 := hc90) (hq0 := blk_below hq0 hW) (h := hr_)).mono ?_
  rintro e w' ⟨rfl, hb⟩
  exact ⟨by show _ = Ending.returned (Value.bool ((impl_isHead_1.f k d aa).getD false)); rw [hr_]; rfl, hb.below⟩

/-! ### impl_isHead: function 161 -/
def impl_isHead.f (k:Nat) (l0:List Int) (l1:List (S97)):Option (Bool):=(impl_vars.f k l1).bind fun t170=>(if (l0.length:Int)≤6 then ((areAll_impl_isHead_1.f k l0 t170).bind fun t174=>(some t174)) else (some false))
theorem impl_isHead.mono : ∀ a0 a1 k,LeO (impl_isHead.f k a0 a1) (impl_isHead.f (k + 1) a0 a1):=by
 intro a0 a1 k;unfold impl_isHead.f
 repeat' first
   | (with_reducible exact areAll_impl_isHead_1.mono _ _ _)
   | (with_reducible exact impl_vars.mono _ _)
   | (with_reducible exact LeO.refl _)
   | (with_reducible exact LeO.none _)
   | (with_reducible refine LeO.ite ?_ ?_)
   | (with_reducible refine LeO.bind ?_ (fun _=>?_))
   | exact areAll_impl_isHead_1.mono _ _ _
   | exact impl_vars.mono _ _
   | exact LeO.none _
   | refine LeO.ite ?_ ?_
   | refine LeO.bind ?_ (fun _=>?_)
set_option maxHeartbeats 8000000 in
set_option maxRecDepth 100000 in
theorem impl_isHead.calls (k:Nat) (A0:Option Addr) (c0:Nat) (l0:List Int) (A1:Option Addr) (c1:Nat) (l1:List (S97)) (r:Bool) (w:World) (hr0:Kd.C (Kd.int .i64) w A0 l0.length l0) (hc0:l0.length≤c0) (hr1:Kd.C k97 w A1 l1.length l1) (hc1:l1.length≤c1) (h:impl_isHead.f k l0 l1=some r) :
  Calls Try.prog 161 #[.slice A0 l0.length c0,.slice A1 l1.length c1] w fun e w'=>e=.returned (.bool r)∧Below w.heap.size w w':=by
 have aE:=qK hr0;have aG:=qK hc0;clear hr0 hc0;have az:=qK hr1;have aA:=qK hc1;clear hr1 hc1;have HB:=qK (Below.refl w.heap.size w);have H:((impl_vars.f k l1).bind fun ae=>(if (l0.length:Int)≤6 then ((areAll_impl_isHead_1.f k l0 ae).bind fun ai=>(some ai)) else (some false)))=some r:=h;clear h;replace H:=Option.bind_eq_some_iff.mp H;obtain ⟨ae,aC,H⟩:=H;replace H:(if (l0.length:Int)≤6 then ((areAll_impl_isHead_1.f k l0 ae).bind fun ai=>(some ai)) else (some false))=some r:=H;have A3:=qK aC;clear aC;by_cases c4:(l0.length:Int)≤6
 ·rw [if_pos c4] at H;have ar:decide ((l0.length:Int)≤6)=true:=decide_eq_true c4;have au:decide (l0.length≤6)=true:=decide_eq_true (by omega);clear c4;replace H:=Option.bind_eq_some_iff.mp H;obtain ⟨ai,aD,H⟩:=H;replace H:(some ai)=some r:=H;have A5:=qK aD;clear aD;obtain rfl:=Option.some.inj H;go_enter Try.func161,Try.ntmps161
  go_wp2_with (first|((with_reducible refine gate_callee (f:=123) rfl ?_);refine goesL_ (some 7) rfl rfl Try.func123 (by kernel_rfl) rfl #[.slice A1 l1.length c1] rfl (by (try simp only [mT,mC,mN]);first|done|rfl|(simp only [lD,lT];rfl)) ?_;(with_reducible refine (impl_vars.calls k _ _ l1 ae _ ?side1 ?side2 A3.out).mono ?_);(case side1=>exact az.out);(case side2=>exact aA.out);rintro e w6 ⟨av,rfl,ho0,hb⟩;refine ⟨_,rfl,?_⟩;have af:=qK (Kd.R_lower ho0 (qZ HB.out));have ag:=qK (qT HB.out hb);clear HB;have aa:=af;have HB:=ag;clear af ag;(try clear hb);(try clear ho0))|((with_reducible refine gate_dst (N:=5) rfl ?_);refine box_event ?hg (N:=5) ?hd (cs:=#[.slice none 0 0]) (t:=22) ?hr ?_;(case hd=>rfl);(case hg=>rfl);(case hr=>(go_simp;try rfl));intro ac hg w7 hbox hb;have af:=qK (rB aa.out hb);have ag:=qK (qT HB.out hb);have aj:=qK (hbox);have ak:=qK ((by rw [hg];exact (qZ HB.out):w.heap.size≤ac));have al:=ak;clear aa HB;have aa:=af;have HB:=ag;have ab:=aj;have am:=ak;have ah:=al;clear af ag aj ak al hb hbox hg;obtain ⟨ao,an,aH⟩:=Kd.R_slice aa.out;subst aH;have aw:w7.cell? ⟨ac,0,none⟩=some (.slice none 0 0):=(qC ab.out 0).trans rfl;have ax:=qF ab.out 0)|(go_at_call 106;(with_reducible refine (areAll_impl_isHead_1.calls k _ _ l0 ac ao an ae ai _ ?side1 ?side2 ?side3 ?side4 ?side5 A5.out).mono ?_);(case side1=>exact cB aE.out (by repeat (with_reducible first|exact HB.out|apply qA|apply qD|apply qO|refine qS ?_ ah.out)));(case side2=>exact aG.out);(case side3=>refine (Kd.R_reads' (e:=3) (base:=w.heap.size) (ok:=fun k_=>True) (n:=ae.length) (c:=an) ?_).2.2;exact ((Kd.R_mono (Kd.R_far (p:=⟨ac,0,none⟩) (Kd.R_types aa.out ab.out (by decide)) (fun _ hk=>hk.2) (.slice ao ae.length an)) (fun _ h_=>h_.1))));(case side4=>exact (Kd.R_reads' aa.out).2.1);(case side5=>exact (by (with_reducible repeat (first|refine qN ?_ _|refine qW ?_|refine qL ?_ _));refine qP (cs:=#[.slice none 0 0]) ?_ 0 _ rfl;(with_reducible repeat (first|refine qN ?_ _|refine qW ?_|refine qL ?_ _));exact ab.out));rintro e aM ⟨rfl,hb⟩;have af:=qK (rB ((Kd.R_mono (Kd.R_far (p:=⟨ac,0,none⟩) (Kd.R_types aa.out ab.out (by decide)) (fun _ hk=>hk.2) (.slice ao ae.length an)) (fun _ h_=>h_.1))) hb);have ag:=qK (qB (g:=ac) (o:=.cells #[.slice ao ae.length an] 22 (0,0)) (by (with_reducible repeat (first|refine qN ?_ _|refine qW ?_|refine qL ?_ _));refine qP (cs:=#[.slice none 0 0]) ?_ 0 _ rfl;(with_reducible repeat (first|refine qN ?_ _|refine qW ?_|refine qL ?_ _));exact ab.out) hb);have aj:=qK (qT (by repeat (with_reducible first|exact HB.out|apply qA|apply qD|apply qO|refine qS ?_ ah.out)) hb);clear aa ab HB;have aa:=af;have ab:=ag;have HB:=aj;clear af ag aj;(try clear hb)))
  go_ret
  exact ⟨by rfl,HB.out⟩
 ·rw [if_neg c4] at H;have ar:decide ((l0.length:Int)≤6)=false:=decide_eq_false c4;have au:decide (l0.length≤6)=false:=decide_eq_false (by omega);clear c4;obtain rfl:=Option.some.inj H;go_enter Try.func161,Try.ntmps161
  go_wp2_with (first|((with_reducible refine gate_callee (f:=123) rfl ?_);refine goesL_ (some 7) rfl rfl Try.func123 (by kernel_rfl) rfl #[.slice A1 l1.length c1] rfl (by (try simp only [mT,mC,mN]);first|done|rfl|(simp only [lD,lT];rfl)) ?_;(with_reducible refine (impl_vars.calls k _ _ l1 ae _ ?side1 ?side2 A3.out).mono ?_);(case side1=>exact az.out);(case side2=>exact aA.out);rintro e aN ⟨av,rfl,ho0,hb⟩;refine ⟨_,rfl,?_⟩;have af:=qK (Kd.R_lower ho0 (qZ HB.out));have ag:=qK (qT HB.out hb);clear HB;have aa:=af;have HB:=ag;clear af ag;(try clear hb);(try clear ho0))|((with_reducible refine gate_dst (N:=5) rfl ?_);refine box_event ?hg (N:=5) ?hd (cs:=#[.slice none 0 0]) (t:=22) ?hr ?_;(case hd=>rfl);(case hg=>rfl);(case hr=>(go_simp;try rfl));intro ac hg aI hbox hb;have af:=qK (rB aa.out hb);have ag:=qK (qT HB.out hb);have aj:=qK (hbox);have ak:=qK ((by rw [hg];exact (qZ HB.out):w.heap.size≤ac));have al:=ak;clear aa HB;have aa:=af;have HB:=ag;have ab:=aj;have am:=ak;have ah:=al;clear af ag aj ak al hb hbox hg;obtain ⟨aJ,aK,ay⟩:=Kd.R_slice aa.out;subst ay;have ap:aI.cell? ⟨ac,0,none⟩=some (.slice none 0 0):=(qC ab.out 0).trans rfl;have aq:=qF ab.out 0))
  go_ret
  exact ⟨by rfl,by repeat (first|(with_reducible first|exact HB.out|apply qA|apply qD|apply qO|refine qS ?_ ah.out)|exact HB.out)⟩

end Go.Proofs.Ytboligpcbndkjaa.PFnExactCoreOf
