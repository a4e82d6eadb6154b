/- What RunDone's law comes to, in numbers and lists alone: the program tells what the reference tells, whatever is asked. -/
import Derived.Test.YtfnaclgiggkbmaaPFnExactRunDonex7
import Derived.Test.YtfnaclgiggkbmaaEv
namespace Go.Proofs.Ytfnaclgiggkbmaa.Pure
open Go.RowKit Go.Proofs.Ytfnaclgiggkbmaa.PFnExactRunDone Go.Proofs.YtfnaclgiggkbmaaW.PrintWords Go.Proofs.YtfnaclgiggkbmaaW.PrintLast Go.Proofs.YtfnaclgiggkbmaaW.PrintMore
set_option linter.unusedVariables false
set_option linter.unusedSimpArgs false

def cv (x:S64):S47:=⟨x.f0,x.f1,x.f2⟩
theorem toStepS_ev (l:List S64) (hl:l.length≤1048576):Ev (fun k=>laws_toStepS.f k l) (l.map cv):=by
 have loop:=loop_up (n:=l.length) (P:=fun i=>∀ x:List S47,x.length=l.length→x.take i=(l.take i).map cv→Ev (fun k=>laws_toStepS.l0 k l x (i:Int)) (l.map cv)) ?_ ?_
 ·unfold laws_toStepS.f
  refine Ev.pos (by omega) (Ev.pos (by omega) ?_)
  exact loop 0 (Nat.zero_le _) (List.replicate _ z47) (by simp) (by simp)
 ·intro x hx ht
  refine Ev.succ ?_
  simp only [laws_toStepS.l0]
  refine Ev.neg (by omega) (Ev.const ?_)
  rw [List.take_of_length_le (by omega),List.take_of_length_le (by omega)] at ht
  rw [ht]
 ·intro i hi ih x hx ht
  refine Ev.succ ?_
  simp only [laws_toStepS.l0,laws_toStep.f,Option.bind_some]
  refine Ev.pos (by omega) (Ev.pos (by omega) (Ev.pos (by omega) ?_))
  rw [wrap_add (by omega) (by omega)]
  refine ih _ (by simp [hx]) ?_
  rw [List.take_succ_eq_append_getElem (by simp [hx];omega),List.take_succ_eq_append_getElem hi,List.map_append]
  simp only [Int.toNat_natCast,List.getElem_set_self]
  rw [List.take_set_of_le (by omega),ht]
  simp [rd_T64,hi,cv]
theorem eqIntS_ev (l:List Int) (hl:l.length≤1048576):Ev (fun k=>laws_eqIntS.f k l l) true:=by
 have loop:=loop_up (n:=l.length) (P:=fun i=>Ev (fun k=>laws_eqIntS.l0 k l l (i:Int)) true) ?_ ?_
 ·unfold laws_eqIntS.f
  exact Ev.pos rfl (loop 0 (Nat.zero_le _))
 ·refine Ev.succ ?_
  simp only [laws_eqIntS.l0]
  exact Ev.neg (by omega) (Ev.const rfl)
 ·intro i hi ih
  refine Ev.succ ?_
  simp only [laws_eqIntS.l0]
  refine Ev.pos (by omega) (Ev.pos (by omega) (Ev.pos (by omega) (Ev.pos trivial ?_)))
  rw [wrap_add (by omega) (by omega)]
  exact ih
theorem eqStepS_ev (l:List S47) (hl:l.length≤1048576):Ev (fun k=>laws_eqStepS.f k l l) true:=by
 have loop:=loop_up (n:=l.length) (P:=fun i=>Ev (fun k=>laws_eqStepS.l0 k l l (i:Int)) true) ?_ ?_
 ·unfold laws_eqStepS.f
  exact Ev.pos rfl (loop 0 (Nat.zero_le _))
 ·refine Ev.succ ?_
  simp only [laws_eqStepS.l0]
  exact Ev.neg (by omega) (Ev.const rfl)
 ·intro i hi ih
  refine Ev.succ ?_
  simp only [laws_eqStepS.l0,laws_eqStep.f,if_true,Option.bind_some]
  refine Ev.pos (by omega) (Ev.pos (by omega) (Ev.pos (by omega) ?_))
  rw [wrap_add (by omega) (by omega)]
  exact ih
theorem l1Has_ev (l:List Int) (x:Int) (hl:l.length≤4194304):Ev (fun k=>spec_l1Has.f k l x) (l.contains x):=by
 have loop:=loop_up (n:=l.length) (P:=fun i=>Ev (fun k=>spec_l1Has.l0 k x l (l.length:Int) (i:Int)) ((l.drop i).contains x)) ?_ ?_
 ·unfold spec_l1Has.f
  exact loop 0 (Nat.zero_le _)
 ·refine Ev.succ ?_
  simp only [spec_l1Has.l0]
  exact Ev.neg (by omega) (Ev.const (by simp))
 ·intro i hi ih
  refine Ev.succ ?_
  simp only [spec_l1Has.l0]
  refine Ev.pos (by omega) (Ev.pos (by omega) (Ev.pos (by omega) ?_))
  rw [List.drop_eq_getElem_cons hi,List.contains_cons,rd_nat hi,wrap_add (by omega) (by omega)]
  by_cases h:l[i]=x
  ·exact Ev.pos h (Ev.const (by simp [h]))
  ·have h':(x == l[i])=false:=by simpa using fun e=>h e.symm
   rw [h',Bool.false_or]
   exact Ev.neg h ih
theorem goodSteps_ev (l:List S47) (hl:l.length≤1048576):Ev (fun k=>spec_GoodSteps.f k l) (decide ((l.length:Int)≤40) && l.all stepB):=by
 have loop:=loop_up (n:=l.length) (P:=fun i=>Ev (fun k=>spec_GoodSteps.l0 k l l (l.length:Int) (i:Int)) (decide ((l.length:Int)≤40) && (l.drop i).all stepB)) ?_ ?_
 ·unfold spec_GoodSteps.f
  exact loop 0 (Nat.zero_le _)
 ·refine Ev.succ ?_
  simp only [spec_GoodSteps.l0]
  exact Ev.neg (by omega) (Ev.const (by simp))
 ·intro i hi ih
  refine Ev.succ ?_
  simp only [spec_GoodSteps.l0,spec_l1In.f]
  refine Ev.pos (by omega) (Ev.pos (by omega) (Ev.pos (by omega) ?_))
  rw [List.drop_eq_getElem_cons hi,List.all_cons,wrap_add (by omega) (by omega)]
  have hr:rd_T47 l (i:Int)=l[i]:=by simp [rd_T47,hi]
  rw [hr]
  obtain ⟨a,b,c⟩:=l[i]
  simp only [stepB]
  by_cases h1:a < 0
  ·exact Ev.pos h1 (Ev.const (by simp;omega))
  refine Ev.neg h1 ?_
  by_cases h2:a ≥ 6
  ·exact Ev.pos h2 (Ev.const (by simp;omega))
  refine Ev.neg h2 ?_
  by_cases h3:c < 0
  ·exact Ev.pos h3 (Ev.const (by simp;omega))
  refine Ev.neg h3 ?_
  by_cases h4:c ≥ 4
  ·exact Ev.pos h4 (Ev.const (by simp;omega))
  refine Ev.neg h4 ?_
  by_cases h5:b ≥ 1
  ·simp only [if_pos h5,Option.bind_some]
   by_cases h6:b≤2
   ·refine Ev.pos (by simpa using h6) ?_
    rw [decide_eq_true (show 0≤a∧a≤5∧1≤b∧b≤2∧0≤c∧c≤3 by omega),Bool.true_and]
    exact ih
   ·exact Ev.neg (by simpa using h6) (Ev.const (by simp;omega))
  ·simp only [if_neg h5,Option.bind_some]
   exact Ev.neg (by simp) (Ev.const (by simp;omega))

/-- The numbers of a set, rising. -/
def setL (s:Int):List Int:=((List.range 6).filter (fun k=>s.toNat.testBit k)).map (fun (k:Nat)=>(k:Int))
theorem setL_mem {s x:Int} (h:x∈setL s):0≤x∧x≤5:=by
 simp only [setL,List.mem_map,List.mem_filter,List.mem_range] at h
 obtain ⟨k,⟨hk,_⟩,rfl⟩:=h
 omega
theorem setL_some (s:Int) (h0:0≤s) (h1:s < 64):impl_set_list.f 8 s=some (setL s):=by
 have key:∀ n:Fin 64,impl_set_list.f 8 (n.val:Int)=some (setL (n.val:Int)):=by decide +kernel
 have:=key ⟨s.toNat,by omega⟩
 simpa [Int.toNat_of_nonneg h0] using this
theorem setL_ev (s:Int) (h0:0≤s) (h1:s < 64):Ev (fun k=>impl_set_list.f k s) (setL s):=Ev.of (fun k=>impl_set_list.mono s k) (setL_some s h0 h1)
/-- A number put to its place, once. -/
def putL (l:List Int) (n:Int):List Int:=if l.contains n then l else l.take (l.takeWhile (fun x=>decide (x < n))).length++n :: l.drop (l.takeWhile (fun x=>decide (x < n))).length
def orB (s n:Int):Int:=Go.bits .or .i64 s (shl .i64 1 n)
def isSet (s:Int):Prop:=0≤s∧s < 64
theorem fin_set {s:Int} (h:isSet s):∃ m:Fin 64,s=(m.val:Int):=⟨⟨s.toNat,by have:=h.1;have:=h.2;omega⟩,by have:=h.1;simp;omega⟩
theorem fin_num {n:Int} (h0:0≤n) (h5:n≤5):∃ m:Fin 6,n=(m.val:Int):=⟨⟨n.toNat,by omega⟩,by simp;omega⟩
theorem orB_ok {s n:Int} (h:isSet s) (h0:0≤n) (h5:n≤5):isSet (orB s n)∧setL (orB s n)=putL (setL s) n:=by
 obtain ⟨a,rfl⟩:=fin_set h
 obtain ⟨b,rfl⟩:=fin_num h0 h5
 have key:∀ a:Fin 64,∀ b:Fin 6,(0≤orB (a.val:Int) (b.val:Int)∧orB (a.val:Int) (b.val:Int) < 64)∧setL (orB (a.val:Int) (b.val:Int))=putL (setL (a.val:Int)) (b.val:Int):=by decide +kernel
 exact key a b
theorem setL_nil {s:Int} (h:isSet s):s=0↔setL s=[]:=by
 obtain ⟨a,rfl⟩:=fin_set h
 have key:∀ a:Fin 64,(a.val:Int)=0↔setL (a.val:Int)=[]:=by decide +kernel
 exact key a
theorem setL_len (s:Int):(setL s).length≤6:=by
 unfold setL
 rw [List.length_map]
 exact Nat.le_trans (List.length_filter_le _ _) (by simp)
theorem putL_len (l:List Int) (n:Int):(putL l n).length≤l.length + 1:=by
 unfold putL
 split
 ·omega
 ·simp;omega

theorem good_step {x:S47} (h:stepB x=true):0≤x.f0∧x.f0≤5:=by
 simp only [stepB,decide_eq_true_eq] at h
 exact ⟨h.1,h.2.1⟩
def txF (s:Int) (l:List S47):Int:=l.foldl (fun s x=>orB s x.f0) s
theorem txF_ok : ∀ (l:List S47) (s:Int),isSet s→(∀ x∈l,stepB x=true)→isSet (txF s l)∧setL (txF s l)=l.foldl (fun r x=>putL r x.f0) (setL s)
 | [],s,hs,_=>⟨hs,rfl⟩
 | a :: l,s,hs,hg=>by
  obtain ⟨h0,h5⟩:=good_step (hg a List.mem_cons_self)
  obtain ⟨k1,k2⟩:=orB_ok hs h0 h5
  obtain ⟨j1,j2⟩:=txF_ok l (orB s a.f0) k1 (fun x hx=>hg x (List.mem_cons_of_mem _ hx))
  refine ⟨j1,?_⟩
  show setL (txF (orB s a.f0) l)=_
  rw [j2,k2];rfl
theorem txnsOf_ev (l:List S47) (hl:l.length≤1048576) (hg:∀ x∈l,stepB x=true):Ev (fun k=>impl_txnsOf.f k l) (txF 0 l):=by
 have loop:=loop_up (n:=l.length) (P:=fun i=>∀ s:Int,txF s (l.drop i)=txF 0 l→Ev (fun k=>impl_txnsOf.l0 k s l (l.length:Int) (i:Int)) (txF 0 l)) ?_ ?_
 ·unfold impl_txnsOf.f
  exact loop 0 (Nat.zero_le _) 0 rfl
 ·intro s hs
  refine Ev.succ ?_
  simp only [impl_txnsOf.l0]
  exact Ev.neg (by omega) (Ev.const (by rw [← hs];simp [txF]))
 ·intro i hi ih s hs
  refine Ev.succ ?_
  simp only [impl_txnsOf.l0]
  have hr:rd_T47 l (i:Int)=l[i]:=by simp [rd_T47,hi]
  rw [hr,wrap_add (by omega) (by omega)]
  refine Ev.pos (by omega) (Ev.pos (by omega) (Ev.pos (by omega) (Ev.pos (good_step (hg _ (List.getElem_mem hi))).1 (ih _ ?_))))
  rw [← hs,List.drop_eq_getElem_cons hi];rfl
/-! ### what good locks are -/
open Classical in
noncomputable def tell (p : Prop) : Bool := decide p
theorem tell_yes {p:Prop} (h:p):tell p=true:=by simp [tell,h]
theorem tell_no {p:Prop} (h:¬ p):tell p=false:=by simp [tell,h]
def ltK (a b:S47):Prop:=a.f0 < b.f0 ∨ (a.f0=b.f0∧a.f2 < b.f2)
/-- Good locks: what is held is sorted and clashes nowhere, who waits waits once, who has ended neither holds nor waits. -/
structure Good (h wt rn : List S47) (dn st : List Int) : Prop where
 sh:∀ a∈h,stepB a=true
 sw:∀ a∈wt,stepB a=true
 sr:∀ a∈rn,stepB a=true
 len:rn.length + wt.length≤40
 heldK:∀ i,(hi:i < h.length)→(hp:0 < i)→ltK (h[i - 1]'(by omega)) h[i]
 heldC:∀ i,(hi:i < h.length)→∀ b∈h.take i,clashB h[i] b=false
 heldE:∀ a∈h,a.f0 ∉ dn++st
 waitE:∀ a∈wt,a.f0 ∉ dn++st
 waitN:∀ i,(hi:i < wt.length)→∀ b∈wt.take i,wt[i].f0 ≠ b.f0
 txn:∀ t∈dn++st,0≤t∧t≤5
 nod:∀ i,(hi:i < (dn++st).length)→(dn++st)[i] ∉ (dn++st).take i
def keyS (a:S47):Int:=4 * a.f0 + a.f2
theorem step_nums {x:S47} (h:stepB x=true):0≤x.f0∧x.f0≤5∧1≤x.f1∧x.f1≤2∧0≤x.f2∧x.f2≤3:=by simpa [stepB] using h
theorem held_short {h:List S47} (sh:∀ a∈h,stepB a=true) (hk:∀ i,(hi:i < h.length)→(hp:0 < i)→ltK (h[i - 1]'(by omega)) h[i]):h.length≤24:=by
 have key:∀ i,(hi:i < h.length)→(i:Int)≤keyS h[i]:=by
  intro i
  induction i with
  | zero =>
   intro hi
   have:=step_nums (sh _ (List.getElem_mem hi))
   unfold keyS;omega
  | succ i ih =>
   intro hi
   have h1:=ih (by omega)
   have h2:=hk (i + 1) hi (by omega)
   have s1:=step_nums (sh _ (List.getElem_mem (show i < h.length by omega)))
   have s2:=step_nums (sh _ (List.getElem_mem hi))
   unfold ltK at h2
   simp only [Nat.add_sub_cancel] at h2
   unfold keyS at h1 ⊢;omega
 rcases Nat.lt_or_ge 24 h.length with hl | hl
 ·have h1:=key 24 hl
  have s1:=step_nums (sh _ (List.getElem_mem hl))
  unfold keyS at h1;omega
 ·exact hl
theorem rdS {l:List S47} {i:Nat} (h:i < l.length):rd_T47 l (i:Int)=l[i]:=by simp [rd_T47,h]
theorem ended_ev (h wt rn:List S47) (dn st:List Int) (t:Int) (hd:dn.length≤4194304) (hs:st.length≤4194304):Ev (fun k=>spec_l14Ended.f k h wt rn dn st t) ((dn++st).contains t):=by
 unfold spec_l14Ended.f
 refine Ev.bind (l1Has_ev dn t hd) ?_
 cases hc:dn.contains t with
 | true=>exact Ev.pos rfl (Ev.const (by simp at hc;simp [hc]))
 | false=>exact Ev.neg (by simp) (Ev.bind (l1Has_ev st t hs) (Ev.const (by simp at hc;simp [hc])))
theorem clashS_some (a b:S47):spec_l13Clash.f a.f0 a.f1 a.f2 b.f0 b.f1 b.f2=some (clashB a b):=clash_some a b
theorem specGood_ev (h wt rn:List S47) (dn st:List Int) (b0:h.length≤1048576) (b1:wt.length≤1048576) (b2:rn.length≤1048576) (b3:dn.length≤1048576) (b4:st.length≤1048576) :
  Ev (fun k=>spec_GoodLocks.f k h wt rn dn st) (tell (Good h wt rn dn st)):=by
 have fin:(∀ a∈h,stepB a=true)→(∀ a∈wt,stepB a=true)→(∀ a∈rn,stepB a=true) →
   Ev (fun k=>spec_GoodLocks.l0 k h (h.length:Int) 0 h wt rn dn st) (tell (Good h wt rn dn st)):=by
  intro sh sw sr
  have l4:(∀ i,(hi:i < h.length)→(hp:0 < i)→ltK (h[i - 1]'(by omega)) h[i])→(∀ i,(hi:i < h.length)→∀ b∈h.take i,clashB h[i] b=false)→(∀ a∈h,a.f0 ∉ dn++st)→(∀ a∈wt,a.f0 ∉ dn++st)→(∀ i,(hi:i < wt.length)→∀ b∈wt.take i,wt[i].f0 ≠ b.f0) →
    Ev (fun k=>spec_GoodLocks.l4 k (dn++st) (dn++st) ((dn++st).length:Int) 0 h wt rn dn st) (tell (Good h wt rn dn st)):=by
   intro hK hC hE wE wN
   obtain ⟨al,hal⟩:∃ al,al=dn++st:=⟨_,rfl⟩
   have hl:al.length≤2097152:=by rw [hal];simp;omega
   have loop:=loop_up (n:=al.length) (P:=fun i=>(∀ j,(hj:j < al.length)→j < i→(0≤al[j]∧al[j]≤5)∧al[j] ∉ al.take j)→Ev (fun k=>spec_GoodLocks.l4 k al al (al.length:Int) (i:Int) h wt rn dn st) (tell (Good h wt rn dn st))) ?_ ?_
   ·rw [← hal]
    exact loop 0 (Nat.zero_le _) (fun j _ h=>absurd h (Nat.not_lt_zero _))
   ·intro g
    refine Ev.succ ?_
    simp only [spec_GoodLocks.l4]
    refine Ev.neg (by omega) (Ev.const ?_)
    rw [wrap_id (by omega) (by omega)]
    by_cases hle:(rn.length:Int) + (wt.length:Int)≤40
    ·rw [decide_eq_true hle,tell_yes]
     refine ⟨sh,sw,sr,by omega,hK,hC,hE,wE,wN,?_,?_⟩
     ·intro t ht
      rw [← hal] at ht
      obtain ⟨j,hj,rfl⟩:=List.getElem_of_mem ht
      exact (g j hj hj).1
     ·rw [← hal];exact fun j hj=>(g j hj hj).2
    ·rw [decide_eq_false hle,tell_no]
     intro G
     have:=G.len
     omega
   ·intro i hi ih g
    refine Ev.succ ?_
    simp only [spec_GoodLocks.l4]
    refine Ev.pos (by omega) (Ev.pos (by omega) (Ev.pos (by omega) ?_))
    rw [rd_nat hi,wrap_add (by omega) (by omega)]
    by_cases h1:al[i] < 0
    ·refine Ev.pos h1 (Ev.const ?_)
     rw [tell_no]
     intro G
     have:=G.txn al[i] (by rw [← hal];exact List.getElem_mem hi)
     omega
    refine Ev.neg h1 ?_
    by_cases h2:al[i] ≥ 6
    ·refine Ev.pos h2 (Ev.const ?_)
     rw [tell_no]
     intro G
     have:=G.txn al[i] (by rw [← hal];exact List.getElem_mem hi)
     omega
    refine Ev.neg h2 (Ev.pos (by omega) ?_)
    rw [Int.toNat_natCast]
    refine Ev.bind (l1Has_ev _ _ (by simp;omega)) ?_
    by_cases h3:al[i]∈al.take i
    ·refine Ev.pos (by simpa using h3) (Ev.const ?_)
     rw [tell_no]
     intro G
     have:=G.nod i (hal ▸ hi)
     simp only [← hal] at this
     exact this h3
    ·refine Ev.neg (by simpa using h3) (ih fun j hj hji=>?_)
     by_cases e:j=i
     ·subst e;exact ⟨by omega,h3⟩
     ·exact g j hj (by omega)
  have l2:(∀ i,(hi:i < h.length)→(hp:0 < i)→ltK (h[i - 1]'(by omega)) h[i])→(∀ i,(hi:i < h.length)→∀ b∈h.take i,clashB h[i] b=false)→(∀ a∈h,a.f0 ∉ dn++st) →
    Ev (fun k=>spec_GoodLocks.l2 k wt (wt.length:Int) 0 h wt rn dn st) (tell (Good h wt rn dn st)):=by
   intro hK hC hE
   have loop:=loop_up (n:=wt.length) (P:=fun i=>(∀ j,(hj:j < wt.length)→j < i→wt[j].f0 ∉ dn++st∧∀ b∈wt.take j,wt[j].f0 ≠ b.f0)→Ev (fun k=>spec_GoodLocks.l2 k wt (wt.length:Int) (i:Int) h wt rn dn st) (tell (Good h wt rn dn st))) ?_ ?_
   ·exact loop 0 (Nat.zero_le _) (fun j _ h=>absurd h (Nat.not_lt_zero _))
   ·intro g
    refine Ev.succ ?_
    simp only [spec_GoodLocks.l2,Option.bind_some,List.nil_append,List.length_nil,Nat.zero_add]
    refine Ev.neg (by omega) (Ev.pos (by omega) (Ev.pos (by omega) (l4 hK hC hE (fun a ha=>?_) (fun j hj=>(g j hj hj).2))))
    obtain ⟨j,hj,rfl⟩:=List.getElem_of_mem ha
    exact (g j hj hj).1
   ·intro i hi ih g
    refine Ev.succ ?_
    simp only [spec_GoodLocks.l2,Option.bind_some]
    rw [rdS hi]
    refine Ev.pos (by omega) (Ev.pos (by omega) (Ev.pos (by omega) (Ev.bind (ended_ev h wt rn dn st _ (by omega) (by omega)) ?_)))
    by_cases h1:wt[i].f0∈dn++st
    ·refine Ev.pos (by simpa using h1) (Ev.const ?_)
     rw [tell_no]
     intro G
     exact G.waitE _ (List.getElem_mem hi) h1
    refine Ev.neg (by simpa using h1) (Ev.pos (by omega) ?_)
    rw [Int.toNat_natCast]
    obtain ⟨y,hy⟩:∃ y,y=wt.take i:=⟨_,rfl⟩
    rw [← hy]
    have hyl:y.length≤1048576:=by rw [hy];simp;omega
    have inner:=loop_up (n:=y.length) (P:=fun m=>(∀ q,(hq:q < y.length)→q < m→wt[i].f0 ≠ y[q].f0)→Ev (fun k=>spec_GoodLocks.l3 k wt (wt.length:Int) (i:Int) y (y.length:Int) (m:Int) h wt rn dn st wt[i].f0 wt[i].f1 wt[i].f2) (tell (Good h wt rn dn st))) ?_ ?_
    ·exact inner 0 (Nat.zero_le _) (fun j _ h=>absurd h (Nat.not_lt_zero _))
    ·intro gy
     refine Ev.succ ?_
     simp only [spec_GoodLocks.l3]
     rw [wrap_add (a:=(i:Int)) (by omega) (by omega)]
     refine Ev.neg (by omega) (ih fun j hj hji=>?_)
     by_cases e:j=i
     ·subst e
      refine ⟨h1,fun b hb=>?_⟩
      rw [← hy] at hb
      obtain ⟨q,hq,rfl⟩:=List.getElem_of_mem hb
      exact gy q hq hq
     ·exact g j hj (by omega)
    ·intro m hm ihm gy
     refine Ev.succ ?_
     simp only [spec_GoodLocks.l3]
     rw [rdS hm,wrap_add (a:=(m:Int)) (by omega) (by omega)]
     refine Ev.pos (by omega) (Ev.pos (by omega) (Ev.pos (by omega) ?_))
     by_cases h2:wt[i].f0=y[m].f0
     ·refine Ev.pos h2 (Ev.const ?_)
      rw [tell_no]
      intro G
      exact G.waitN i hi y[m] (by rw [← hy];exact List.getElem_mem hm) h2
     ·refine Ev.neg h2 (ihm fun q hq hqm=>?_)
      by_cases e:q=m
      ·subst e;exact h2
      ·exact gy q hq (by omega)
  have loop:=loop_up (n:=h.length) (P:=fun i=>(∀ j,(hj:j < h.length)→j < i→((hp:0 < j)→ltK (h[j - 1]'(by omega)) h[j])∧h[j].f0 ∉ dn++st∧∀ b∈h.take j,clashB h[j] b=false)→Ev (fun k=>spec_GoodLocks.l0 k h (h.length:Int) (i:Int) h wt rn dn st) (tell (Good h wt rn dn st))) ?_ ?_
  ·exact loop 0 (Nat.zero_le _) (fun j _ h=>absurd h (Nat.not_lt_zero _))
  ·intro g
   refine Ev.succ ?_
   simp only [spec_GoodLocks.l0]
   refine Ev.neg (by omega) (l2 (fun j hj=>(g j hj hj).1) (fun j hj=>(g j hj hj).2.2) (fun a ha=>?_))
   obtain ⟨j,hj,rfl⟩:=List.getElem_of_mem ha
   exact (g j hj hj).2.1
  ·intro i hi ih g
   refine Ev.succ ?_
   simp only [spec_GoodLocks.l0]
   rw [rdS hi]
   refine Ev.pos (by omega) (Ev.pos (by omega) (Ev.pos (by omega) (Ev.bind (ended_ev h wt rn dn st _ (by omega) (by omega)) ?_)))
   have bad:¬ Good h wt rn dn st→Ev (fun k=>spec_GoodLocks.j2 k (i:Int) h (h.length:Int) (i:Int) true h wt rn dn st h[i].f0 h[i].f1 h[i].f2) (tell (Good h wt rn dn st)):=by
    intro hb
    refine Ev.succ ?_
    simp only [spec_GoodLocks.j2]
    exact Ev.pos trivial (Ev.const (by rw [tell_no hb]))
   have fine:((hp:0 < i)→ltK (h[i - 1]'(by omega)) h[i])→h[i].f0 ∉ dn++st→Ev (fun k=>spec_GoodLocks.j2 k (i:Int) h (h.length:Int) (i:Int) false h wt rn dn st h[i].f0 h[i].f1 h[i].f2) (tell (Good h wt rn dn st)):=by
    intro hlt hne
    refine Ev.succ ?_
    simp only [spec_GoodLocks.j2,Option.bind_some]
    refine Ev.neg (by simp) (Ev.pos (by omega) (Ev.pos (by omega) ?_))
    rw [Int.toNat_natCast]
    obtain ⟨y,hy⟩:∃ y,y=h.take i:=⟨_,rfl⟩
    rw [← hy]
    have hyl:y.length≤1048576:=by rw [hy];simp;omega
    have inner:=loop_up (n:=y.length) (P:=fun m=>(∀ q,(hq:q < y.length)→q < m→clashB h[i] y[q]=false)→Ev (fun k=>spec_GoodLocks.l1 k h (h.length:Int) (i:Int) y (y.length:Int) (m:Int) h wt rn dn st h[i].f0 h[i].f1 h[i].f2) (tell (Good h wt rn dn st))) ?_ ?_
    ·exact inner 0 (Nat.zero_le _) (fun j _ h=>absurd h (Nat.not_lt_zero _))
    ·intro gy
     refine Ev.succ ?_
     simp only [spec_GoodLocks.l1]
     rw [wrap_add (a:=(i:Int)) (by omega) (by omega)]
     refine Ev.neg (by omega) (ih fun j hj hji=>?_)
     by_cases e:j=i
     ·subst e
      refine ⟨hlt,hne,fun b hb=>?_⟩
      rw [← hy] at hb
      obtain ⟨q,hq,rfl⟩:=List.getElem_of_mem hb
      exact gy q hq hq
     ·exact g j hj (by omega)
    ·intro m hm ihm gy
     refine Ev.succ ?_
     simp only [spec_GoodLocks.l1]
     rw [rdS hm,wrap_add (a:=(m:Int)) (by omega) (by omega),clashS_some h[i] y[m]]
     simp only [Option.bind_some]
     refine Ev.pos (by omega) (Ev.pos (by omega) (Ev.pos (by omega) ?_))
     by_cases h2:clashB h[i] y[m]=true
     ·refine Ev.pos h2 (Ev.const ?_)
      rw [tell_no]
      intro G
      have:=G.heldC i hi y[m] (by rw [← hy];exact List.getElem_mem hm)
      rw [h2] at this;cases this
     ·refine Ev.neg h2 (ihm fun q hq hqm=>?_)
      by_cases e:q=m
      ·subst e;simpa using h2
      ·exact gy q hq (by omega)
   by_cases h1:h[i].f0∈dn++st
   ·exact Ev.pos (by simpa using h1) (bad fun G=>G.heldE _ (List.getElem_mem hi) h1)
   refine Ev.neg (by simpa using h1) ?_
   by_cases hp:0 < i
   ·have e1:wrap64 ((i:Int) - 1)=((i - 1:Nat):Int):=by unfold wrap64;omega
    rw [e1,rdS (show i - 1 < h.length by omega)]
    refine Ev.pos (by omega) (Ev.pos (by omega) (Ev.pos (by omega) ?_))
    by_cases h2:h[i - 1].f0 > h[i].f0
    ·refine Ev.pos h2 (bad fun G=>?_)
     have:=G.heldK i hi hp
     unfold ltK at this;omega
    refine Ev.neg h2 ?_
    by_cases h3:h[i - 1].f0=h[i].f0
    ·refine Ev.pos h3 ?_
     by_cases h4:h[i - 1].f2 ≥ h[i].f2
     ·rw [decide_eq_true h4]
      refine bad fun G=>?_
      have:=G.heldK i hi hp
      unfold ltK at this;omega
     ·rw [decide_eq_false h4]
      exact fine (fun _=>Or.inr ⟨h3,by omega⟩) h1
    ·exact Ev.neg h3 (fine (fun _=>Or.inl (by omega)) h1)
   ·exact Ev.neg (by omega) (fine (fun h=>absurd h hp) h1)
 have none_:¬ Good h wt rn dn st→Ev (fun k=>spec_GoodLocks.j0 k true h wt rn dn st) (tell (Good h wt rn dn st)):=by
  intro hb
  refine Ev.succ ?_
  simp only [spec_GoodLocks.j0]
  exact Ev.pos trivial (Ev.const (by rw [tell_no hb]))
 unfold spec_GoodLocks.f
 refine Ev.bind (goodSteps_ev h b0) ?_
 by_cases g0:(decide ((h.length:Int)≤40) && h.all stepB)=true
 ·refine Ev.pos g0 (Ev.bind (goodSteps_ev wt b1) ?_)
  by_cases g1:(decide ((wt.length:Int)≤40) && wt.all stepB)=true
  ·refine Ev.pos g1 (Ev.bind (goodSteps_ev rn b2) ?_)
   by_cases g2:(decide ((rn.length:Int)≤40) && rn.all stepB)=true
   ·rw [g2]
    refine Ev.succ ?_
    simp only [spec_GoodLocks.j0]
    refine Ev.neg (by simp) ?_
    rw [Bool.and_eq_true_iff] at g0 g1 g2
    have sh:=List.all_eq_true.1 g0.2
    exact fin sh (List.all_eq_true.1 g1.2) (List.all_eq_true.1 g2.2)
   ·have g3:(decide ((rn.length:Int)≤40) && rn.all stepB)=false:=Bool.eq_false_iff.2 g2
    rw [g3]
    refine none_ fun G=>g2 ?_
    rw [Bool.and_eq_true_iff]
    exact ⟨decide_eq_true (by have:=G.len;omega),List.all_eq_true.2 G.sr⟩
  ·refine Ev.neg g1 (none_ fun G=>g1 ?_)
   rw [Bool.and_eq_true_iff]
   exact ⟨decide_eq_true (by have:=G.len;omega),List.all_eq_true.2 G.sw⟩
 ·refine Ev.neg g0 (none_ fun G=>g0 ?_)
  rw [Bool.and_eq_true_iff]
  exact ⟨decide_eq_true (by have:=held_short G.sh G.heldK;omega),List.all_eq_true.2 G.sh⟩
/-! ### the program's -/
theorem over_ev (h wt rn:List S47) (dn st:List Int) (b3:dn.length≤1048576) (b4:st.length≤1048576):Ev (fun k=>impl_Locks_over.f k h wt rn dn st) (dn++st):=by
 have e0:rd_L3 [dn,st] 0=dn:=rfl
 have e1:rd_L3 [dn,st] 1=st:=rfl
 have w0:wrap64 ((0:Int) + 1)=1:=by rw [wrap_id (by omega) (by omega)];rfl
 have w1:wrap64 ((1:Int) + 1)=2:=by rw [wrap_id (by omega) (by omega)];rfl
 have s0:wrap64 ((0:Int) + (dn.length:Int))=(dn.length:Int):=by rw [wrap_add (by omega) (by omega)];omega
 have s1:wrap64 ((dn.length:Int) + (st.length:Int))=(dn.length:Int) + (st.length:Int):=wrap_add (by omega) (by omega)
 unfold impl_Locks_over.f slices_Concat_int_int.f
 refine Ev.bind (a:=dn++st) ?_ (Ev.const rfl)
 refine Ev.succ ?_
 simp only [slices_Concat_int_int.l0]
 refine Ev.pos (by simp) (Ev.pos (by simp) (Ev.pos (by simp) ?_))
 rw [e0,s0,w0]
 refine Ev.neg (by omega) (Ev.succ ?_)
 simp only [slices_Concat_int_int.l0]
 refine Ev.pos (by simp) (Ev.pos (by simp) (Ev.pos (by simp) ?_))
 rw [e1,s1,w1]
 refine Ev.neg (by omega) (Ev.succ ?_)
 simp only [slices_Concat_int_int.l0]
 refine Ev.neg (by simp) ?_
 refine Ev.bind (a:=([]:List Int)) (Ev.const ?_) ?_
 ·unfold grow0_Int.f
  rw [if_pos (by omega)]
 refine Ev.succ ?_
 simp only [slices_Concat_int_int.l1]
 refine Ev.pos (by simp) (Ev.pos (by simp) (Ev.pos (by simp) ?_))
 rw [e0,w0]
 refine Ev.pos (by simp;omega) (Ev.succ ?_)
 simp only [slices_Concat_int_int.l1]
 refine Ev.pos (by simp) (Ev.pos (by simp) (Ev.pos (by simp) ?_))
 rw [e1,w1]
 refine Ev.pos (by simp;omega) (Ev.succ ?_)
 simp only [slices_Concat_int_int.l1]
 exact Ev.neg (by simp) (Ev.const (by simp))
def foldB (s:Int) (l:List Int):Int:=l.foldl orB s
def allTxn (l:List Int):Prop:=∀ t∈l,0≤t∧t≤5
theorem setOf_ev (l:List Int) (hl:l.length≤4194304) (hg:allTxn l):Ev (fun k=>impl_setOf.f k l) (foldB 0 l):=by
 have loop:=loop_up (n:=l.length) (P:=fun i=>∀ s:Int,foldB s (l.drop i)=foldB 0 l→Ev (fun k=>impl_setOf.l0 k s l (l.length:Int) (i:Int)) (foldB 0 l)) ?_ ?_
 ·unfold impl_setOf.f
  exact loop 0 (Nat.zero_le _) 0 rfl
 ·intro s hs
  refine Ev.succ ?_
  simp only [impl_setOf.l0]
  exact Ev.neg (by omega) (Ev.const (by rw [← hs];simp [foldB]))
 ·intro i hi ih s hs
  refine Ev.succ ?_
  simp only [impl_setOf.l0]
  rw [rd_nat hi,wrap_add (by omega) (by omega)]
  refine Ev.pos (by omega) (Ev.pos (by omega) (Ev.pos (by omega) (Ev.pos (hg _ (List.getElem_mem hi)).1 (ih _ ?_))))
  rw [← hs,List.drop_eq_getElem_cons hi];rfl
theorem txF_fold (l:List S47):∀ s,txF s l=foldB s (l.map (·.f0)):=by
 induction l with
 | nil=>intro s;rfl
 | cons a l ih=>intro s;exact ih (orB s a.f0)
theorem mem_putL (l:List Int) (n x:Int):x∈putL l n↔x=n ∨ x∈l:=by
 unfold putL
 split
 ·next h =>
  have h':n∈l:=by simpa using h
  constructor
  ·exact Or.inr
  ·rintro (rfl | h2)
   ·exact h'
   ·exact h2
 ·rw [List.mem_append,List.mem_cons]
  have e:=List.take_append_drop (l.takeWhile (fun x=>decide (x < n))).length l
  constructor
  ·rintro (h1 | rfl | h1)
   ·exact Or.inr (List.mem_of_mem_take h1)
   ·exact Or.inl rfl
   ·exact Or.inr (List.mem_of_mem_drop h1)
  ·rintro (rfl | h1)
   ·exact Or.inr (Or.inl rfl)
   ·rw [← e,List.mem_append] at h1
    rcases h1 with h1 | h1
    ·exact Or.inl h1
    ·exact Or.inr (Or.inr h1)
theorem length_putL (l:List Int) (n:Int):(putL l n).length=if n∈l then l.length else l.length + 1:=by
 unfold putL
 by_cases h:n∈l
 ·rw [if_pos (by simpa using h),if_pos h]
 ·rw [if_neg (by simpa using h),if_neg h]
  have e:(l.take (l.takeWhile (fun x=>decide (x < n))).length).length + (l.drop (l.takeWhile (fun x=>decide (x < n))).length).length=l.length:=by rw [← List.length_append,List.take_append_drop]
  rw [List.length_append,List.length_cons];omega
theorem foldB_ok : ∀ (l:List Int) (s:Int),isSet s→allTxn l→isSet (foldB s l)∧∀ x,x∈setL (foldB s l)↔x∈setL s ∨ x∈l
 | [],s,hs,_=>⟨hs,fun x=>by simp [foldB]⟩
 | a :: l,s,hs,hg=>by
  obtain ⟨h0,h5⟩:=hg a List.mem_cons_self
  obtain ⟨k1,k2⟩:=orB_ok hs h0 h5
  obtain ⟨j1,j2⟩:=foldB_ok l (orB s a) k1 (fun x hx=>hg x (List.mem_cons_of_mem _ hx))
  refine ⟨j1,fun x=>?_⟩
  show x∈setL (foldB (orB s a) l)↔_
  rw [j2,k2,mem_putL,List.mem_cons]
  constructor
  ·rintro ((h | h) | h)
   ·exact Or.inr (Or.inl h)
   ·exact Or.inl h
   ·exact Or.inr (Or.inr h)
  ·rintro (h | h | h)
   ·exact Or.inl (Or.inr h)
   ·exact Or.inl (Or.inl h)
   ·exact Or.inr h
theorem foldB_len : ∀ (l:List Int) (s:Int),isSet s→allTxn l→(setL (foldB s l)).length≤(setL s).length + l.length∧((setL (foldB s l)).length=(setL s).length + l.length↔∀ i,(hi:i < l.length)→l[i] ∉ setL s∧l[i] ∉ l.take i)
 | [],s,hs,_=>⟨by simp [foldB],by simp [foldB]⟩
 | a :: l,s,hs,hg=>by
  obtain ⟨h0,h5⟩:=hg a List.mem_cons_self
  obtain ⟨k1,k2⟩:=orB_ok hs h0 h5
  obtain ⟨j1,j2⟩:=foldB_len l (orB s a) k1 (fun x hx=>hg x (List.mem_cons_of_mem _ hx))
  have hlen:=length_putL (setL s) a
  rw [← k2] at hlen
  have hm:∀ x,x∈setL (orB s a)↔x=a ∨ x∈setL s:=fun x=>by rw [k2,mem_putL]
  show (setL (foldB (orB s a) l)).length≤_∧((setL (foldB (orB s a) l)).length=_↔_)
  have e9:(a :: l).length=l.length + 1:=rfl
  by_cases h:a∈setL s
  ·rw [if_pos h] at hlen
   refine ⟨by omega,fun e=>by omega,fun e=>absurd h (e 0 (by simp)).1⟩
  ·rw [if_neg h] at hlen
   refine ⟨by omega,fun e=>?_,fun e=>?_⟩
   ·have j3:=j2.1 (by omega)
    intro i hi
    cases i with
    | zero=>exact ⟨h,by simp⟩
    | succ i =>
     have:=j3 i (by simpa using hi)
     rw [hm] at this
     simp only [List.getElem_cons_succ,List.take_succ_cons,List.mem_cons]
     exact ⟨fun z=>this.1 (Or.inr z),fun z=>z.elim (fun z=>this.1 (Or.inl z)) this.2⟩
   ·have j3:=j2.2 fun i hi=>?_
    ·omega
    ·have:=e (i + 1) (by simpa using hi)
     simp only [List.getElem_cons_succ,List.take_succ_cons,List.mem_cons] at this
     rw [hm]
     exact ⟨fun z=>z.elim (fun z=>this.2 (Or.inl z)) this.1,fun z=>this.2 (Or.inr z)⟩
theorem and_ok {a b c:Int} (ha:isSet a) (hb:isSet b) (hc:isSet c):(Go.bits .and .i64 a (Go.bits .or .i64 b c) != 0)=true↔∃ x,x∈setL a∧(x∈setL b ∨ x∈setL c):=by
 have k1:∀ b c:Fin 64,(0≤Go.bits .or .i64 (b.val:Int) (c.val:Int)∧Go.bits .or .i64 (b.val:Int) (c.val:Int) < 64)∧setL (Go.bits .or .i64 (b.val:Int) (c.val:Int))=([0,1,2,3,4,5]:List Int).filter (fun x=>(setL (b.val:Int)).contains x || (setL (c.val:Int)).contains x):=by decide +kernel
 have k2:∀ a b:Fin 64,(Go.bits .and .i64 (a.val:Int) (b.val:Int) != 0)=(setL (a.val:Int)).any (fun x=>(setL (b.val:Int)).contains x):=by decide +kernel
 obtain ⟨a,rfl⟩:=fin_set ha
 obtain ⟨b,rfl⟩:=fin_set hb
 obtain ⟨c,rfl⟩:=fin_set hc
 obtain ⟨q1,q2⟩:=k1 b c
 obtain ⟨d,hd⟩:=fin_set q1
 rw [hd,k2 a d,← hd,List.any_eq_true]
 constructor
 ·rintro ⟨x,hx,h⟩
  refine ⟨x,hx,?_⟩
  have h':x∈setL (Go.bits .or .i64 (b.val:Int) (c.val:Int)):=by simpa using h
  rw [q2,List.mem_filter] at h'
  simpa using h'.2
 ·rintro ⟨x,hx,h⟩
  refine ⟨x,hx,?_⟩
  have h':x∈setL (Go.bits .or .i64 (b.val:Int) (c.val:Int)):=by
   rw [q2,List.mem_filter]
   obtain ⟨x0,x5⟩:=setL_mem hx
   refine ⟨?_,by simpa using h⟩
   have:x=0 ∨ x=1 ∨ x=2 ∨ x=3 ∨ x=4 ∨ x=5:=by omega
   simpa using this
  simpa using h'
def cmpI (x y:Int):Int:=if x < y then -1 else if x > y then 1 else 0
theorem compare_some (x y:Int):cmp_Compare_int.f x y=some (cmpI x y):=by
 unfold cmp_Compare_int.f cmp_isNaN_int.f cmpI
 simp only [bne_self_eq_false,Option.bind_some,Bool.false_eq_true,if_false]
 split
 ·rfl
 ·split <;> rfl
theorem compareLocks_ev (a b:S47):EvX (fun k=>impl_compareLocks.f k a.f0 a.f1 a.f2 b.f0 b.f1 b.f2) (fun r=>r ≥ 0↔¬ ltK a b):=by
 unfold impl_compareLocks.f cmp_Or_int.f
 simp only [compare_some,Option.bind_some]
 have w0:wrap64 ((0:Int) + 1)=1:=by rw [wrap_id (by omega) (by omega)];rfl
 have w1:wrap64 ((1:Int) + 1)=2:=by rw [wrap_id (by omega) (by omega)];rfl
 have r0:rd [cmpI a.f0 b.f0,cmpI a.f2 b.f2] 0=cmpI a.f0 b.f0:=rfl
 have r1:rd [cmpI a.f0 b.f0,cmpI a.f2 b.f2] 1=cmpI a.f2 b.f2:=rfl
 refine EvX.bind (P:=fun r=>r ≥ 0↔¬ ltK a b) ?_ (fun r hr=>EvX.const rfl hr)
 refine EvX.succ ?_
 simp only [cmp_Or_int.l0]
 refine EvX.pos (by simp) (EvX.pos (by simp) (EvX.pos (by simp) ?_))
 rw [r0,w0]
 by_cases h1:cmpI a.f0 b.f0=0
 ·refine EvX.pos h1 (EvX.succ ?_)
  simp only [cmp_Or_int.l0]
  refine EvX.pos (by simp) (EvX.pos (by simp) (EvX.pos (by simp) ?_))
  rw [r1,w1]
  by_cases h2:cmpI a.f2 b.f2=0
  ·refine EvX.pos h2 (EvX.succ ?_)
   simp only [cmp_Or_int.l0]
   refine EvX.neg (by simp) (EvX.const rfl ?_)
   unfold cmpI at h1 h2;unfold ltK
   split at h1 <;> split at h2 <;> omega
  ·refine EvX.neg h2 (EvX.const rfl ?_)
   unfold cmpI at h1 h2 ⊢;unfold ltK
   split at h1 <;> split <;> (try split) <;> omega
 ·refine EvX.neg h1 (EvX.const rfl ?_)
  unfold cmpI at h1 ⊢;unfold ltK
  split <;> (try split) <;> omega
theorem implGood_ev (h wt rn:List S47) (dn st:List Int) (b0:h.length≤1048576) (b1:wt.length≤1048576) (b2:rn.length≤1048576) (b3:dn.length≤1048576) (b4:st.length≤1048576) :
  Ev (fun k=>impl_GoodLocks.f k h wt rn dn st) (tell (Good h wt rn dn st)):=by
 obtain ⟨al,hal⟩:∃ al,al=dn++st:=⟨_,rfl⟩
 have hl:al.length≤2097152:=by rw [hal];simp;omega
 have none_:¬ Good h wt rn dn st→Ev (fun k=>impl_GoodLocks.j0 k al true h wt rn dn st) (tell (Good h wt rn dn st)):=by
  intro hb
  refine Ev.succ ?_
  simp only [impl_GoodLocks.j0]
  exact Ev.pos trivial (Ev.const (by rw [tell_no hb]))
 have none1:¬ Good h wt rn dn st→Ev (fun k=>impl_GoodLocks.j1 k true h wt rn dn st) (tell (Good h wt rn dn st)):=by
  intro hb
  refine Ev.succ ?_
  simp only [impl_GoodLocks.j1]
  exact Ev.pos trivial (Ev.const (by rw [tell_no hb]))
 unfold impl_GoodLocks.f
 refine Ev.bind (over_ev h wt rn dn st b3 b4) ?_
 rw [← hal]
 simp only [areAll_isStep.f,areAll_isTxn.f,Option.bind_some]
 rw [wrap_id (by omega) (by omega)]
 by_cases g0:h.all stepB=true
 case neg=>exact Ev.neg g0 (none_ fun G=>g0 (List.all_eq_true.2 G.sh))
 refine Ev.pos g0 ?_
 by_cases g1:wt.all stepB=true
 case neg=>exact Ev.neg g1 (none_ fun G=>g1 (List.all_eq_true.2 G.sw))
 refine Ev.pos g1 ?_
 by_cases g2:rn.all stepB=true
 case neg=>exact Ev.neg g2 (none_ fun G=>g2 (List.all_eq_true.2 G.sr))
 refine Ev.pos g2 ?_
 by_cases g3:(rn.length:Int) + (wt.length:Int) > 40
 ·exact Ev.pos g3 (none_ fun G=>by have:=G.len;omega)
 refine Ev.neg g3 ?_
 have gtx:al.all txnB=true↔allTxn al:=by
  rw [List.all_eq_true]
  exact forall_congr' fun x=>forall_congr' fun hx=>by simp [txnB]
 by_cases g4:al.all txnB=true
 case neg =>
  rw [Bool.eq_false_iff.2 g4]
  exact none_ fun G=>g4 (gtx.2 (hal ▸ G.txn))
 rw [g4]
 have ga:=gtx.1 g4
 have sw:=List.all_eq_true.1 g1
 have sh:=List.all_eq_true.1 g0
 have z0:isSet 0:=⟨by omega,by omega⟩
 have zl:setL 0=[]:=by decide +kernel
 have gw:allTxn (wt.map (·.f0)):=by
  intro t ht
  obtain ⟨a,ha,rfl⟩:=List.mem_map.1 ht
  exact good_step (sw a ha)
 have gh:allTxn (h.map (·.f0)):=by
  intro t ht
  obtain ⟨a,ha,rfl⟩:=List.mem_map.1 ht
  exact good_step (sh a ha)
 obtain ⟨sa,ma⟩:=foldB_ok al 0 z0 ga
 obtain ⟨sb,mb⟩:=foldB_ok (wt.map (·.f0)) 0 z0 gw
 obtain ⟨sc,mc⟩:=foldB_ok (h.map (·.f0)) 0 z0 gh
 rw [← txF_fold] at sb mb sc mc
 have la:=(foldB_len al 0 z0 ga).2
 have lb:=(foldB_len (wt.map (·.f0)) 0 z0 gw).2
 rw [zl] at ma mb mc la lb
 rw [← txF_fold] at lb
 simp only [List.length_nil,Nat.zero_add,List.length_map,List.not_mem_nil,false_or,not_false_eq_true,true_and] at ma mb mc la lb
 refine Ev.succ ?_
 simp only [impl_GoodLocks.j0]
 refine Ev.neg (by simp) (Ev.bind (setOf_ev al (by omega) ga) (Ev.bind (setL_ev _ sa.1 sa.2) ?_))
 by_cases g5:(setL (foldB 0 al)).length=al.length
 case neg =>
  refine Ev.neg (by omega) (none1 fun G=>g5 (la.2 ?_))
  rw [hal];exact G.nod
 refine Ev.pos (by omega) (Ev.bind (txnsOf_ev wt b1 sw) (Ev.bind (setL_ev _ sb.1 sb.2) ?_))
 by_cases g6:(setL (txF 0 wt)).length=wt.length
 case neg =>
  refine Ev.neg (by omega) (none1 fun G=>g6 (lb.2 fun i hi=>?_))
  rw [← List.map_take,List.mem_map]
  rintro ⟨b,hb,e⟩
  exact G.waitN i hi b hb (by rw [e];simp)
 refine Ev.pos (by omega) (Ev.bind (txnsOf_ev wt b1 sw) (Ev.bind (txnsOf_ev h b0 sh) ?_))
 by_cases g7:(Go.bits .and .i64 (foldB 0 al) (Go.bits .or .i64 (txF 0 wt) (txF 0 h)) != 0)=true
 ·rw [g7]
  refine none1 fun G=>?_
  obtain ⟨x,hx,hx2⟩:=(and_ok sa sb sc).1 g7
  rw [ma] at hx
  rw [mb,mc,List.mem_map,List.mem_map] at hx2
  rw [hal] at hx
  rcases hx2 with ⟨a,h1,rfl⟩ | ⟨a,h1,rfl⟩
  ·exact G.waitE a h1 hx
  ·exact G.heldE a h1 hx
 rw [Bool.eq_false_iff.2 g7]
 have apart:∀ x,x∈al→x ∉ wt.map (·.f0)∧x ∉ h.map (·.f0):=by
  intro x hx
  constructor
  ·intro h1;exact g7 ((and_ok sa sb sc).2 ⟨x,(ma x).2 hx,Or.inl ((mb x).2 h1)⟩)
  ·intro h1;exact g7 ((and_ok sa sb sc).2 ⟨x,(ma x).2 hx,Or.inr ((mc x).2 h1)⟩)
 refine Ev.succ ?_
 simp only [impl_GoodLocks.j1]
 refine Ev.neg (by simp) ?_
 have loop:=loop_up (n:=h.length) (P:=fun i=>(∀ j,(hj:j < h.length)→j < i→((hp:0 < j)→ltK (h[j - 1]'(by omega)) h[j])∧∀ b∈h.take j,clashB h[j] b=false)→Ev (fun k=>impl_GoodLocks.l0 k h (h.length:Int) (i:Int) h wt rn dn st) (tell (Good h wt rn dn st))) ?_ ?_
 ·exact loop 0 (Nat.zero_le _) (fun j _ h=>absurd h (Nat.not_lt_zero _))
 ·intro g
  refine Ev.succ ?_
  simp only [impl_GoodLocks.l0]
  refine Ev.neg (by omega) (Ev.const ?_)
  rw [tell_yes]
  refine ⟨sh,sw,List.all_eq_true.1 g2,by omega,fun j hj=>(g j hj hj).1,fun j hj=>(g j hj hj).2,?_,?_,?_,?_,?_⟩
  ·intro a ha h1
   exact (apart a.f0 (by rw [hal];exact h1)).2 (List.mem_map.2 ⟨a,ha,rfl⟩)
  ·intro a ha h1
   exact (apart a.f0 (by rw [hal];exact h1)).1 (List.mem_map.2 ⟨a,ha,rfl⟩)
  ·intro i hi b hb e
   have:=lb.1 g6 i hi
   rw [← List.map_take,List.mem_map] at this
   exact this ⟨b,hb,by simp [e]⟩
  ·rw [← hal];exact ga
  ·have:=la.1 g5
   rw [hal] at this;exact this
 ·intro i hi ih g
  refine Ev.succ ?_
  simp only [impl_GoodLocks.l0,anyf_GoodLocks1.f,Option.bind_some]
  rw [rdS hi]
  have rest:((hp:0 < i)→ltK (h[i - 1]'(by omega)) h[i])→Ev (fun k=>if (i:Int)≤(h.length:Int) then (if (h.take (i:Int).toNat).any (clashB ⟨h[i].f0,h[i].f1,h[i].f2⟩)=true then some false else impl_GoodLocks.l0 k h (h.length:Int) (wrap64 ((i:Int) + 1)) h wt rn dn st) else none) (tell (Good h wt rn dn st)):=by
   intro hlt
   refine Ev.pos (by omega) ?_
   rw [Int.toNat_natCast,wrap_add (by omega) (by omega)]
   by_cases h2:(h.take i).any (clashB h[i])=true
   ·refine Ev.pos h2 (Ev.const ?_)
    rw [tell_no]
    intro G
    obtain ⟨b,hb,hc⟩:=List.any_eq_true.1 h2
    rw [G.heldC i hi b hb] at hc;cases hc
   ·refine Ev.neg h2 (ih fun j hj hji=>?_)
    by_cases e:j=i
    ·subst e
     refine ⟨hlt,fun b hb=>?_⟩
     have:=List.any_eq_false.1 (Bool.eq_false_iff.2 h2) b hb
     simpa using this
    ·exact g j hj (by omega)
  refine Ev.pos (by omega) (Ev.pos (by omega) (Ev.pos (by omega) ?_))
  by_cases hp:0 < i
  ·have e1:wrap64 ((i:Int) - 1)=((i - 1:Nat):Int):=by unfold wrap64;omega
   rw [e1,rdS (show i - 1 < h.length by omega)]
   obtain ⟨r,hr,hr2⟩:=compareLocks_ev (h[i - 1]'(by omega)) h[i]
   refine Ev.pos (by omega) (Ev.pos (by omega) (Ev.pos (by omega) (Ev.bind hr ?_)))
   by_cases h3:r ≥ 0
   ·refine Ev.pos h3 (Ev.const ?_)
    rw [tell_no]
    exact fun G=>hr2.1 h3 (G.heldK i hi hp)
   ·exact Ev.neg h3 (rest fun _=>Classical.byContradiction fun q=>h3 (hr2.2 q))
  ·exact Ev.neg (by omega) (rest fun q=>absurd q hp)
theorem contains_ev (l:List Int) (x:Int) (hl:l.length≤1048576):Ev (fun k=>slices_Contains_int_int.f k l x) (l.contains x):=by
 have loop:=loop_up (n:=l.length) (P:=fun i=>EvX (fun k=>slices_Index_int_int.l0 k l x (l.length:Int) (i:Int)) (fun r=>r ≥ 0↔x∈l.drop i)) ?_ ?_
 ·obtain ⟨r,hr,hp⟩:=loop 0 (Nat.zero_le _)
  unfold slices_Contains_int_int.f slices_Index_int_int.f
  refine Ev.bind hr (Ev.const ?_)
  congr 1
  rw [Bool.eq_iff_iff,decide_eq_true_iff,hp]
  simp
 ·refine EvX.succ ?_
  simp only [slices_Index_int_int.l0]
  exact EvX.neg (by omega) (EvX.const rfl (by simp))
 ·intro i hi ih
  refine EvX.succ ?_
  simp only [slices_Index_int_int.l0]
  rw [rd_nat hi,wrap_add (by omega) (by omega)]
  refine EvX.pos (by omega) (EvX.pos (by omega) (EvX.pos (by omega) ?_))
  have hd:x∈l.drop i↔x=l[i] ∨ x∈l.drop (i + 1):=by rw [List.drop_eq_getElem_cons hi,List.mem_cons]
  by_cases h:x=l[i]
  ·exact EvX.pos h (EvX.const rfl (by rw [hd];exact ⟨fun _=>.inl h,fun _=>by omega⟩))
  ·obtain ⟨r,hr,hp⟩:=ih
   refine EvX.neg h ⟨r,hr,?_⟩
   show r ≥ 0↔x∈l.drop i
   rw [hp,hd]
   exact ⟨.inr,fun h2=>h2.elim (fun e=>absurd e h) id⟩
/-! ### the steps of those who are done -/
def doneOf (dn:List Int) (rn:List S47):List S47:=rn.filter fun x=>dn.contains x.f0
theorem specRun_ev (h wt rn:List S47) (dn st:List Int) (b2:rn.length≤1048576) (b3:dn.length≤1048576):Ev (fun k=>spec_RunDone.l0 k [] rn (rn.length:Int) 0 h wt rn dn st) (doneOf dn rn,true):=by
 have loop:=loop_up (n:=rn.length) (P:=fun i=>Ev (fun k=>spec_RunDone.l0 k (doneOf dn (rn.take i)) rn (rn.length:Int) (i:Int) h wt rn dn st) (doneOf dn rn,true)) ?_ ?_
 ·exact loop 0 (Nat.zero_le _)
 ·refine Ev.succ ?_
  simp only [spec_RunDone.l0]
  refine Ev.neg (by omega) (Ev.const ?_)
  rw [List.take_length]
 ·intro i hi ih
  refine Ev.succ ?_
  simp only [spec_RunDone.l0]
  rw [rdS hi,wrap_add (by omega) (by omega)]
  have e:doneOf dn (rn.take (i + 1))=doneOf dn (rn.take i)++[rn[i]].filter (fun x=>dn.contains x.f0):=by
   unfold doneOf
   rw [List.take_succ_eq_append_getElem hi,List.filter_append]
  have hl:(doneOf dn (rn.take i)).length≤1048576:=Nat.le_trans (List.length_filter_le _ _) (by simp;omega)
  refine Ev.pos (by omega) (Ev.pos (by omega) (Ev.pos (by omega) (Ev.bind (l1Has_ev dn _ (by omega)) ?_)))
  rw [e] at ih
  cases hc:dn.contains rn[i].f0 with
  | true =>
   refine Ev.pos rfl (Ev.pos (by omega) ?_)
   rw [List.filter_cons_of_pos (by simpa using hc),List.filter_nil] at ih
   exact ih
  | false =>
   refine Ev.neg (by simp) ?_
   rw [List.filter_cons_of_neg (by rw [hc];simp),List.filter_nil,List.append_nil] at ih
   exact ih
theorem delf_ev (l:List S47) (dn:List Int) (b3:dn.length≤1048576):Ev (fun k=>delf_Step.f k l dn) (doneOf dn l):=by
 have all:∀ m:List S47,∃ K,∀ k,K≤k→∀ x∈m,slices_Contains_int_int.f k dn x.f0=some (dn.contains x.f0):=by
  intro m
  induction m with
  | nil=>exact ⟨0,fun _ _ x hx=>by cases hx⟩
  | cons a m ih =>
   obtain ⟨K,hK⟩:=ih
   obtain ⟨K2,hK2⟩:=contains_ev dn a.f0 b3
   refine ⟨K + K2,fun k hk x hx=>?_⟩
   rcases List.mem_cons.1 hx with rfl | hx
   ·exact hK2 k (by omega)
   ·exact hK k (by omega) x hx
 obtain ⟨K,hK⟩:=all l
 refine ⟨K,fun k hk=>?_⟩
 show delf_Step.f k l dn=some (doneOf dn l)
 unfold delf_Step.f
 rw [if_pos (by rw [List.all_eq_true];intro x hx;rw [hK k hk x hx,beq_iff_eq])]
 rfl
theorem both (h wt rn:List S47) (dn st:List Int) (b0:h.length≤1048576) (b1:wt.length≤1048576) (b2:rn.length≤1048576) (b3:dn.length≤1048576) (b4:st.length≤1048576) :
  ∃ o,Ev (fun k=>spec_RunDone.f k h wt rn dn st) o∧Ev (fun k=>impl_RunDone.f k h wt rn dn st) o∧okStepS o.1:=by
 unfold spec_RunDone.f impl_RunDone.f
 by_cases g:tell (Good h wt rn dn st)=true
 ·refine ⟨(doneOf dn rn,true),Ev.bind (specGood_ev h wt rn dn st b0 b1 b2 b3 b4) (Ev.pos g (specRun_ev h wt rn dn st b2 b3)),Ev.bind (implGood_ev h wt rn dn st b0 b1 b2 b3 b4) (Ev.pos g (Ev.bind (a:=rn) (Ev.const ?_) (Ev.bind (delf_ev rn dn b3) (Ev.const rfl)))),Nat.le_trans (List.length_filter_le _ _) b2⟩
  unfold clone_Step.f
  rw [if_pos (by omega)]
 ·exact ⟨([],false),Ev.bind (specGood_ev h wt rn dn st b0 b1 b2 b3 b4) (Ev.neg g (Ev.const rfl)),Ev.bind (implGood_ev h wt rn dn st b0 b1 b2 b3 b4) (Ev.neg g (Ev.const rfl)),by simp [okStepS]⟩
theorem FnExactRunDone : laws_FnExactRunDone.Pure:=by
 intro h wt rn dn st _ _ _ _ _ hz
 unfold szOk_laws_szLocks at hz
 obtain ⟨r,h1,h2,h3⟩:=both (cvStepS h) (cvStepS wt) (cvStepS rn) dn st (by simp [cvStepS];omega) (by simp [cvStepS];omega) (by simp [cvStepS];omega) (by omega) (by omega)
 obtain ⟨K1,k1⟩:=h1
 obtain ⟨K2,k2⟩:=h2
 exact ⟨K1 + K2,r,k1 _ (by omega),k2 _ (by omega),h3⟩
end Go.Proofs.Ytfnaclgiggkbmaa.Pure
