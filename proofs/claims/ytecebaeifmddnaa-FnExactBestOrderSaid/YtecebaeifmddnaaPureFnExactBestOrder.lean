/- What BestOrder's law comes to, in numbers and lists alone: the program tells what the reference tells, whatever is asked. -/
import Derived.Test.YtecebaeifmddnaaPFnExactBestOrderx7
import Derived.Test.YtecebaeifmddnaaEv
namespace Go.Proofs.Ytecebaeifmddnaa.Pure
open Go.RowKit Go.Proofs.Ytecebaeifmddnaa.PFnExactBestOrder Go.Proofs.YtecebaeifmddnaaW.PrintWords Go.Proofs.YtecebaeifmddnaaW.PrintLast Go.Proofs.YtecebaeifmddnaaW.PrintMore
set_option linter.unusedVariables false
set_option linter.unusedSimpArgs false

/-- The numbers of a set, rising. -/
def setL (s:Int):List Int:=((List.range 6).filter (fun k=>s.toNat.testBit k)).map (fun (k:Nat)=>(k:Int))
theorem setL_mem {s x:Int} (h:x∈setL s):0≤x∧x≤5:=by
 simp only [setL,List.mem_map,List.mem_filter,List.mem_range] at h
 obtain ⟨k,⟨hk,_⟩,rfl⟩:=h
 omega
theorem setL_some (s:Int) (h0:0≤s) (h1:s < 64):impl_set_list.f 8 s=some (setL s):=by
 have key:∀ n:Fin 64,impl_set_list.f 8 (n.val:Int)=some (setL (n.val:Int)):=by decide +kernel
 have:=key ⟨s.toNat,by omega⟩
 simpa [Int.toNat_of_nonneg h0] using this
theorem setL_ev (s:Int) (h0:0≤s) (h1:s < 64):Ev (fun k=>impl_set_list.f k s) (setL s):=Ev.of (fun k=>impl_set_list.mono s k) (setL_some s h0 h1)
/-- A number put to its place, once. -/
def putL (l:List Int) (n:Int):List Int:=if l.contains n then l else l.take (l.takeWhile (fun x=>decide (x < n))).length++n :: l.drop (l.takeWhile (fun x=>decide (x < n))).length
def orB (s n:Int):Int:=Go.bits .or .i64 s (shl .i64 1 n)
def isSet (s:Int):Prop:=0≤s∧s < 64
theorem fin_set {s:Int} (h:isSet s):∃ m:Fin 64,s=(m.val:Int):=⟨⟨s.toNat,by have:=h.1;have:=h.2;omega⟩,by have:=h.1;simp;omega⟩
theorem fin_num {n:Int} (h0:0≤n) (h5:n≤5):∃ m:Fin 6,n=(m.val:Int):=⟨⟨n.toNat,by omega⟩,by simp;omega⟩
theorem orB_ok {s n:Int} (h:isSet s) (h0:0≤n) (h5:n≤5):isSet (orB s n)∧setL (orB s n)=putL (setL s) n:=by
 obtain ⟨a,rfl⟩:=fin_set h
 obtain ⟨b,rfl⟩:=fin_num h0 h5
 have key:∀ a:Fin 64,∀ b:Fin 6,(0≤orB (a.val:Int) (b.val:Int)∧orB (a.val:Int) (b.val:Int) < 64)∧setL (orB (a.val:Int) (b.val:Int))=putL (setL (a.val:Int)) (b.val:Int):=by decide +kernel
 exact key a b
theorem setL_nil {s:Int} (h:isSet s):s=0↔setL s=[]:=by
 obtain ⟨a,rfl⟩:=fin_set h
 have key:∀ a:Fin 64,(a.val:Int)=0↔setL (a.val:Int)=[]:=by decide +kernel
 exact key a
theorem setL_len (s:Int):(setL s).length≤6:=by
 unfold setL
 rw [List.length_map]
 exact Nat.le_trans (List.length_filter_le _ _) (by simp)
theorem putL_len (l:List Int) (n:Int):(putL l n).length≤l.length + 1:=by
 unfold putL
 split
 ·omega
 ·simp;omega

def hasB (a b:Int):Bool:=Go.bits .and .i64 a b == b
def orS (a b:Int):Int:=Go.bits .or .i64 a b
theorem mem_setL {m:Fin 64} {x:Int}:x∈setL (m.val:Int)↔∃ k:Fin 6,x=(k.val:Int)∧m.val.testBit k.val=true:=by
 simp only [setL,List.mem_map,List.mem_filter,List.mem_range,Int.toNat_natCast]
 constructor
 ·rintro ⟨k,⟨hk,hb⟩,rfl⟩;exact ⟨⟨k,hk⟩,rfl,hb⟩
 ·rintro ⟨k,rfl,hb⟩;exact ⟨k.val,⟨k.isLt,hb⟩,rfl⟩
theorem orS_set {a b:Int} (ha:isSet a) (hb:isSet b):isSet (orS a b):=by
 obtain ⟨a,rfl⟩:=fin_set ha
 obtain ⟨b,rfl⟩:=fin_set hb
 have key:∀ a b:Fin 64,0≤orS (a.val:Int) (b.val:Int)∧orS (a.val:Int) (b.val:Int) < 64:=by decide +kernel
 exact key a b
theorem hasB_iff {a b:Int} (ha:isSet a) (hb:isSet b):hasB a b=(setL b).all (fun x=>(setL a).contains x):=by
 obtain ⟨a,rfl⟩:=fin_set ha
 obtain ⟨b,rfl⟩:=fin_set hb
 have key:∀ a b:Fin 64,hasB (a.val:Int) (b.val:Int)=(setL (b.val:Int)).all (fun x=>(setL (a.val:Int)).contains x):=by decide +kernel
 exact key a b
theorem orS_fold {a b:Int} (ha:isSet a) (hb:isSet b):setL (orS a b)=(setL b).foldl putL (setL a):=by
 obtain ⟨a,rfl⟩:=fin_set ha
 obtain ⟨b,rfl⟩:=fin_set hb
 have key:∀ a b:Fin 64,setL (orS (a.val:Int) (b.val:Int))=(setL (b.val:Int)).foldl putL (setL (a.val:Int)):=by decide +kernel
 exact key a b
theorem orS_len {a b:Int} (ha:isSet a) (hb:isSet b):(setL a).length≤(setL (orS a b)).length∧((setL a).length=(setL (orS a b)).length↔orS a b=a):=by
 obtain ⟨a,rfl⟩:=fin_set ha
 obtain ⟨b,rfl⟩:=fin_set hb
 have key:∀ a b:Fin 64,(setL (a.val:Int)).length≤(setL (orS (a.val:Int) (b.val:Int))).length∧((setL (a.val:Int)).length=(setL (orS (a.val:Int) (b.val:Int))).length↔orS (a.val:Int) (b.val:Int)=(a.val:Int)):=by decide +kernel
 exact key a b
theorem setL_inj {a b:Int} (ha:isSet a) (hb:isSet b) (h:setL a=setL b):a=b:=by
 obtain ⟨a,rfl⟩:=fin_set ha
 obtain ⟨b,rfl⟩:=fin_set hb
 have key:∀ a b:Fin 64,setL (a.val:Int)=setL (b.val:Int)→(a.val:Int)=(b.val:Int):=by decide +kernel
 exact key a b h
/-- The set of a list. -/
def setI (l:List Int):Int:=l.foldl orB 0
theorem orB_foldl : ∀ (l:List Int) (s:Int),isSet s→(∀ x∈l,0≤x∧x≤5)→isSet (l.foldl orB s)∧setL (l.foldl orB s)=l.foldl putL (setL s)
 | [],s,hs,_=>⟨hs,rfl⟩
 | n :: l,s,hs,h=>by
  obtain ⟨h0,h5⟩:=h n List.mem_cons_self
  obtain ⟨k1,k2⟩:=orB_ok hs h0 h5
  obtain ⟨j1,j2⟩:=orB_foldl l (orB s n) k1 (fun x hx=>h x (List.mem_cons_of_mem _ hx))
  exact ⟨j1,by rw [List.foldl_cons,j2,k2];rfl⟩
/-- Rising numbers of so many. -/
def ris (l:List Int) (c:Int):Prop:=∀ i,(hi:i < l.length)→0≤l[i]∧l[i] < c∧(0 < i→l[i - 1]'(by omega) < l[i])
theorem ris_tail {a:Int} {l:List Int} {c:Int} (h:ris (a :: l) c):ris l c:=by
 intro i hi
 have:=h (i + 1) (by simp;omega)
 simp only [List.getElem_cons_succ,Nat.add_sub_cancel] at this
 refine ⟨this.1,this.2.1,fun hp=>?_⟩
 have h3:=this.2.2 (by omega)
 obtain ⟨j,rfl⟩:∃ j,i=j + 1:=⟨i - 1,by omega⟩
 simpa using h3
theorem ris_mem {l:List Int} {c:Int} (h:ris l c):∀ x∈l,0≤x∧x < c:=by
 intro x hx
 obtain ⟨i,hi,rfl⟩:=List.getElem_of_mem hx
 exact ⟨(h i hi).1,(h i hi).2.1⟩
theorem ris_lt : ∀ {l:List Int} {a c:Int},ris (a :: l) c→∀ x∈l,a < x
 | [],_,_,_=>fun x hx=>by cases hx
 | b :: l,a,c,h=>by
  have hab:a < b:=by have:=(h 1 (by simp)).2.2 (by omega);simpa using this
  intro x hx
  rcases List.mem_cons.1 hx with rfl | hx
  ·exact hab
  ·exact Int.lt_trans hab (ris_lt (ris_tail h) x hx)
theorem ris_zero {c:Int} (h:c≤0) {l:List Int} (hl:ris l c):l=[]:=by
 cases l with
 | nil=>rfl
 | cons a l=>have:=hl 0 (by simp);simp at this;omega
/-- Numbers put to their places behind those that are less: at the end. -/
theorem putL_end (p:List Int) (n:Int) (h:∀ x∈p,x < n):putL p n=p++[n]:=by
 have hc:p.contains n=false:=by
  rw [Bool.eq_false_iff]
  intro hn
  have:=h n (by simpa using hn)
  omega
 have ht:p.takeWhile (fun x=>decide (x < n))=p:=by
  clear hc
  induction p with
  | nil=>rfl
  | cons a p ih=>rw [List.takeWhile_cons,if_pos (by simpa using h a List.mem_cons_self),ih (fun x hx=>h x (List.mem_cons_of_mem _ hx))]
 unfold putL
 rw [hc,ht,List.take_of_length_le (Nat.le_refl _),List.drop_of_length_le (Nat.le_refl _)]
 rfl
theorem foldl_putL : ∀ (l p:List Int) (c:Int),ris l c→(∀ x∈p,∀ y∈l,x < y)→l.foldl putL p=p++l
 | [],p,_,_,_=>by simp
 | n :: l,p,c,h,hp=>by
  rw [List.foldl_cons,putL_end p n (fun x hx=>hp x hx n List.mem_cons_self),foldl_putL l (p++[n]) c (ris_tail h) ?_,List.append_assoc]
  ·rfl
  ·intro x hx y hy
   rcases List.mem_append.1 hx with hx | hx
   ·exact hp x hx y (List.mem_cons_of_mem _ hy)
   ·obtain rfl:x=n:=by simpa using hx
    exact ris_lt h y hy
theorem setI_ok {l:List Int} {c:Int} (h:ris l c) (hc:c≤6):isSet (setI l)∧setL (setI l)=l:=by
 obtain ⟨k1,k2⟩:=orB_foldl l 0 ⟨by omega,by omega⟩ (fun x hx=>by have:=ris_mem h x hx;omega)
 refine ⟨k1,?_⟩
 unfold setI
 rw [k2,show setL 0=[] from by decide +kernel,foldl_putL l [] c h (fun x hx=>by cases hx)]
 rfl
theorem ris_len {l:List Int} {c:Int} (h:ris l c) (hc:c≤6):l.length≤6:=by
 rw [← (setI_ok h hc).2];exact setL_len _
def andS (a b:Int):Int:=Go.bits .and .i64 a b
def minusS (a b:Int):Int:=Go.bits .andNot .i64 a b
theorem andS_eq {a b:Int} (ha:isSet a) (hb:isSet b):isSet (andS a b)∧setL (andS a b)=(setL a).filter (fun x=>(setL b).contains x):=by
 obtain ⟨a,rfl⟩:=fin_set ha
 obtain ⟨b,rfl⟩:=fin_set hb
 have key:∀ a b:Fin 64,(0≤andS (a.val:Int) (b.val:Int)∧andS (a.val:Int) (b.val:Int) < 64)∧setL (andS (a.val:Int) (b.val:Int))=(setL (a.val:Int)).filter (fun x=>(setL (b.val:Int)).contains x):=by decide +kernel
 exact key a b
theorem minusS_eq {a b:Int} (ha:isSet a) (hb:isSet b):isSet (minusS a b)∧setL (minusS a b)=(setL a).filter (fun x=>!(setL b).contains x):=by
 obtain ⟨a,rfl⟩:=fin_set ha
 obtain ⟨b,rfl⟩:=fin_set hb
 have key:∀ a b:Fin 64,(0≤minusS (a.val:Int) (b.val:Int)∧minusS (a.val:Int) (b.val:Int) < 64)∧setL (minusS (a.val:Int) (b.val:Int))=(setL (a.val:Int)).filter (fun x=>!(setL (b.val:Int)).contains x):=by decide +kernel
 exact key a b
theorem mem_putL (l:List Int) (n x:Int):x∈putL l n↔x=n ∨ x∈l:=by
 unfold putL
 split
 ·rename_i h
  have h2:n∈l:=by simpa using h
  exact ⟨.inr,fun h3=>h3.elim (fun e=>e ▸ h2) id⟩
 ·generalize (l.takeWhile fun y=>decide (y < n)).length=m
  rw [List.mem_append,List.mem_cons]
  have e:x∈l↔x∈l.take m ∨ x∈l.drop m:=by rw [← List.mem_append,List.take_append_drop]
  rw [e]
  exact ⟨fun h=>h.elim (fun h=>.inr (.inl h)) (fun h=>h.elim .inl (fun h=>.inr (.inr h))),fun h=>h.elim (fun h=>.inr (.inl h)) (fun h=>h.elim .inl (fun h=>.inr (.inr h)))⟩
theorem mem_foldl_putL : ∀ (l p:List Int) (x:Int),x∈l.foldl putL p↔x∈p ∨ x∈l
 | [],p,x=>by simp
 | n :: l,p,x=>by
  rw [List.foldl_cons,mem_foldl_putL l,mem_putL,List.mem_cons]
  exact ⟨fun h=>h.elim (fun h=>h.elim (fun h=>.inr (.inl h)) .inl) (fun h=>.inr (.inr h)),fun h=>h.elim (fun h=>.inl (.inr h)) (fun h=>h.elim (fun h=>.inl (.inl h)) .inr)⟩
theorem mem_or {a b:Int} (ha:isSet a) (hb:isSet b) (x:Int):x∈setL (orS a b)↔x∈setL a ∨ x∈setL b:=by rw [orS_fold ha hb,mem_foldl_putL]
theorem mem_and {a b:Int} (ha:isSet a) (hb:isSet b) (x:Int):x∈setL (andS a b)↔x∈setL a∧x∈setL b:=by rw [(andS_eq ha hb).2,List.mem_filter];simp
theorem mem_minus {a b:Int} (ha:isSet a) (hb:isSet b) (x:Int):x∈setL (minusS a b)↔x∈setL a∧x ∉ setL b:=by rw [(minusS_eq ha hb).2,List.mem_filter];simp
theorem mem_has {a b:Int} (ha:isSet a) (hb:isSet b):hasB a b=true↔∀ x∈setL b,x∈setL a:=by rw [hasB_iff ha hb,List.all_eq_true];simp
theorem setL_pw (s:Int):(setL s).Pairwise (· < ·):=by
 unfold setL
 rw [List.pairwise_map]
 refine List.Pairwise.imp (fun h=>by omega) ((List.pairwise_lt_range (n:=6)).filter _)
theorem pw_eq : ∀ {a b:List Int},a.Pairwise (· < ·)→b.Pairwise (· < ·)→(∀ x,x∈a↔x∈b)→a=b
 | [],[],_,_,_=>rfl
 | [],y :: b,_,_,h=>absurd ((h y).2 List.mem_cons_self) (by simp)
 | x :: a,[],_,_,h=>absurd ((h x).1 List.mem_cons_self) (by simp)
 | x :: a,y :: b,ha,hb,h=>by
  obtain ⟨hx,ha2⟩:=List.pairwise_cons.1 ha
  obtain ⟨hy,hb2⟩:=List.pairwise_cons.1 hb
  have e:x=y:=by
   rcases List.mem_cons.1 ((h x).1 List.mem_cons_self) with e | m
   ·exact e
   ·rcases List.mem_cons.1 ((h y).2 List.mem_cons_self) with e | m2
    ·exact e.symm
    ·have:=hy x m;have:=hx y m2;omega
  subst e
  rw [pw_eq ha2 hb2 fun z=>?_]
  constructor
  ·intro hz
   rcases List.mem_cons.1 ((h z).1 (List.mem_cons_of_mem _ hz)) with e | m
   ·have:=hx z hz;omega
   ·exact m
  ·intro hz
   rcases List.mem_cons.1 ((h z).2 (List.mem_cons_of_mem _ hz)) with e | m
   ·have:=hy z hz;omega
   ·exact m
/-- A set has another one: it is as great just if it is the same. -/
theorem sub_len {a b:Int} (ha:isSet a) (hb:isSet b) (h:∀ x∈setL b,x∈setL a):(setL b).length≤(setL a).length∧((setL b).length=(setL a).length↔a=b):=by
 obtain ⟨a,rfl⟩:=fin_set ha
 obtain ⟨b,rfl⟩:=fin_set hb
 have key:∀ a b:Fin 64,(∀ x∈setL (b.val:Int),x∈setL (a.val:Int))→(setL (b.val:Int)).length≤(setL (a.val:Int)).length∧((setL (b.val:Int)).length=(setL (a.val:Int)).length↔(a.val:Int)=(b.val:Int)):=by decide +kernel
 exact key a b h
theorem l1Has_ev (l:List Int) (x:Int) (hl:l.length≤4194304):Ev (fun k=>spec_l1Has.f k l x) (l.contains x):=by
 have loop:=loop_up (n:=l.length) (P:=fun i=>Ev (fun k=>spec_l1Has.l0 k x l (l.length:Int) (i:Int)) ((l.drop i).contains x)) ?_ ?_
 ·unfold spec_l1Has.f
  exact loop 0 (Nat.zero_le _)
 ·refine Ev.succ ?_
  simp only [spec_l1Has.l0]
  exact Ev.neg (by omega) (Ev.const (by simp))
 ·intro i hi ih
  refine Ev.succ ?_
  simp only [spec_l1Has.l0]
  refine Ev.pos (by omega) (Ev.pos (by omega) (Ev.pos (by omega) ?_))
  rw [List.drop_eq_getElem_cons hi,List.contains_cons,rd_nat hi,wrap_add (by omega) (by omega)]
  by_cases h:l[i]=x
  ·exact Ev.pos h (Ev.const (by simp [h]))
  ·have h':(x == l[i])=false:=by simpa using fun e=>h e.symm
   rw [h',Bool.false_or]
   exact Ev.neg h ih
theorem takeWhile_at (p:Int→Bool):∀ (l:List Int) (i:Nat),i≤l.length→(∀ j,(h:j < l.length)→j < i→p l[j]=true)→(∀ h:i < l.length,p l[i]=false)→(l.takeWhile p).length=i
 | [],i,hi,_,_=>by simp at hi;simp [hi]
 | a :: l,0,_,_,h2=>by have:=h2 (by simp);simp at this;simp [List.takeWhile_cons,this]
 | a :: l,i + 1,hi,h1,h2=>by
  have h0:=h1 0 (by simp) (by omega)
  simp at h0
  rw [List.takeWhile_cons,h0]
  simp only [if_true,List.length_cons]
  rw [takeWhile_at p l i (by simpa using hi) (fun j h hj=>by have:=h1 (j + 1) (by simpa using h) (by omega);simpa using this) (fun h=>by have:=h2 (by simpa using h);simpa using this)]
theorem l7Put_ev (l:List Int) (n:Int) (hl:l.length≤1000):Ev (fun k=>spec_l7Put.f k l n) (putL l n):=by
 unfold spec_l7Put.f
 refine Ev.bind (l1Has_ev l n (by omega)) ?_
 by_cases hc:l.contains n=true
 ·rw [putL,if_pos hc]
  exact Ev.pos hc (Ev.const rfl)
 ·refine Ev.neg hc ?_
  rw [putL,if_neg hc]
  have done:∀ i:Nat,i≤l.length→(∀ j,(h:j < l.length)→j < i→decide (l[j] < n)=true)→(∀ h:i < l.length,decide (l[i] < n)=false)→l.take (l.takeWhile (fun x=>decide (x < n))).length++n :: l.drop (l.takeWhile (fun x=>decide (x < n))).length=([]++l.take (i:Int).toNat)++[n]++l.drop (i:Int).toNat:=by
   intro i hi h1 h2
   rw [takeWhile_at _ l i hi h1 h2];simp
  have loop:=loop_up (n:=l.length) (P:=fun i=>(∀ j,(h:j < l.length)→j < i→decide (l[j] < n)=true)→Ev (fun k=>spec_l7Put.l0 k l n (i:Int)) (l.take (l.takeWhile (fun x=>decide (x < n))).length++n :: l.drop (l.takeWhile (fun x=>decide (x < n))).length)) ?_ ?_
  ·exact loop 0 (Nat.zero_le _) (fun j _ h=>absurd h (Nat.not_lt_zero _))
  ·intro h1
   refine Ev.succ ?_
   rw [done l.length (Nat.le_refl _) h1 (fun h=>absurd h (Nat.lt_irrefl _))]
   simp only [spec_l7Put.l0,Option.bind_some]
   refine Ev.neg (by omega) (Ev.pos (by omega) (Ev.pos (by omega) (Ev.pos (by simp;omega) (Ev.pos (by simp;omega) (Ev.pos (by simp;omega) (Ev.const rfl))))))
  ·intro i hi ih h1
   refine Ev.succ ?_
   simp only [spec_l7Put.l0,Option.bind_some]
   refine Ev.pos (by omega) (Ev.pos (by omega) ?_)
   rw [rd_nat hi,wrap_add (by omega) (by omega)]
   by_cases h:l[i] < n
   ·refine Ev.pos h (ih (fun j hj hji=>?_))
    by_cases e:j=i
    ·subst e;simpa using h
    ·exact h1 j hj (by omega)
   ·refine Ev.neg h ?_
    rw [done i (by omega) h1 (fun _=>by simpa using h)]
    exact Ev.pos (by omega) (Ev.pos (by simp;omega) (Ev.pos (by simp;omega) (Ev.pos (by simp;omega) (Ev.const rfl))))
open Classical in
noncomputable def tell (p : Prop) : Bool := decide p
theorem tell_yes {p:Prop} (h:p):tell p=true:=by simp [tell,h]
theorem tell_no {p:Prop} (h:¬ p):tell p=false:=by simp [tell,h]
theorem tell_iff {p:Prop}:tell p=true↔p:=by simp [tell]
theorem setOf_ev (l:List Int) (hl:l.length≤4194304) (h:∀ x∈l,0≤x):Ev (fun k=>impl_setOf.f k l) (setI l):=by
 have loop:=loop_up (n:=l.length) (P:=fun i=>∀ s:Int,(l.drop i).foldl orB s=setI l→Ev (fun k=>impl_setOf.l0 k s l (l.length:Int) (i:Int)) (setI l)) ?_ ?_
 ·exact loop 0 (Nat.zero_le _) 0 rfl
 ·intro s hs
  refine Ev.succ ?_
  simp only [impl_setOf.l0]
  exact Ev.neg (by omega) (Ev.const (by rw [← hs];simp))
 ·intro i hi ih s hs
  refine Ev.succ ?_
  simp only [impl_setOf.l0]
  rw [rd_nat hi,wrap_add (by omega) (by omega)]
  refine Ev.pos (by omega) (Ev.pos (by omega) (Ev.pos (by omega) (Ev.pos (h _ (List.getElem_mem hi)) (ih _ ?_))))
  rw [← hs,List.drop_eq_getElem_cons hi];rfl
theorem l7Put_set (s n:Int) (hs:isSet s) (h0:0≤n) (h5:n≤5):Ev (fun k=>spec_l7Put.f k (setL s) n) (setL (orB s n)):=by
 rw [(orB_ok hs h0 h5).2]
 exact l7Put_ev (setL s) n (by have:=setL_len s;omega)
theorem l1Some_ev (l:List Int) (c:Int) (hl:l.length≤4194304):Ev (fun k=>spec_l1Some.f k l c) (tell (ris l c)):=by
 have loop:=loop_up (n:=l.length) (P:=fun i=>(∀ j,(hj:j < l.length)→j < i→0≤l[j]∧l[j] < c∧(0 < j→l[j - 1]'(by omega) < l[j]))→Ev (fun k=>spec_l1Some.l0 k l c l (l.length:Int) (i:Int)) (tell (ris l c))) ?_ ?_
 ·exact loop 0 (Nat.zero_le _) (fun j _ h=>absurd h (Nat.not_lt_zero _))
 ·intro g
  refine Ev.succ ?_
  simp only [spec_l1Some.l0]
  exact Ev.neg (by omega) (Ev.const (by rw [tell_yes (show ris l c from fun i hi=>g i hi hi)]))
 ·intro i hi ih g
  refine Ev.succ ?_
  simp only [spec_l1Some.l0]
  rw [rd_nat hi,wrap_add (by omega) (by omega)]
  refine Ev.pos (by omega) (Ev.pos (by omega) (Ev.pos (by omega) ?_))
  by_cases h1:l[i] < 0
  ·exact Ev.pos h1 (Ev.const (by rw [tell_no fun h=>by have:=(h i hi).1;omega]))
  refine Ev.neg h1 ?_
  by_cases h2:l[i] ≥ c
  ·exact Ev.pos h2 (Ev.const (by rw [tell_no fun h=>by have:=(h i hi).2.1;omega]))
  refine Ev.neg h2 ?_
  have next:(0 < i→l[i - 1]'(by omega) < l[i])→Ev (fun k=>spec_l1Some.l0 k l c l (l.length:Int) ((i:Int) + 1)) (tell (ris l c)):=fun hn=>ih fun j hj hji=>by
   by_cases e:j=i
   ·subst e;exact ⟨by omega,by omega,hn⟩
   ·exact g j hj (by omega)
  by_cases h3:0 < i
  ·refine Ev.pos (by omega) ?_
   rw [wrap_id (by omega) (by omega),show (i:Int) - 1=((i - 1:Nat):Int) by omega,rd_nat (show i - 1 < l.length by omega)]
   refine Ev.pos (by omega) (Ev.pos (by omega) ?_)
   by_cases h4:l[i - 1] ≥ l[i]
   ·exact Ev.pos h4 (Ev.const (by rw [tell_no fun h=>by have:=(h i hi).2.2 h3;omega]))
   ·exact Ev.neg h4 (next fun _=>by omega)
  ·exact Ev.neg (by omega) (next fun h=>absurd h h3)
theorem areRising_ev (l:List Int) (c:Int) (hl:l.length≤4194304):Ev (fun k=>impl_areRising.f k l c) (tell (ris l c)):=by
 have loop:=loop_up (n:=l.length) (P:=fun i=>(∀ j,(hj:j < l.length)→j < i→0≤l[j]∧l[j] < c∧(0 < j→l[j - 1]'(by omega) < l[j]))→Ev (fun k=>impl_areRising.l0 k l c l (l.length:Int) (i:Int)) (tell (ris l c))) ?_ ?_
 ·exact loop 0 (Nat.zero_le _) (fun j _ h=>absurd h (Nat.not_lt_zero _))
 ·intro g
  refine Ev.succ ?_
  simp only [impl_areRising.l0]
  exact Ev.neg (by omega) (Ev.const (by rw [tell_yes (show ris l c from fun i hi=>g i hi hi)]))
 ·intro i hi ih g
  refine Ev.succ ?_
  simp only [impl_areRising.l0,impl_isPlace.f]
  rw [rd_nat hi,wrap_add (by omega) (by omega)]
  refine Ev.pos (by omega) (Ev.pos (by omega) (Ev.pos (by omega) ?_))
  by_cases h1:l[i] ≥ 0
  case neg =>
   refine Ev.bind (a:=false) (Ev.const (if_neg h1)) (Ev.neg (by simp) (Ev.const ?_))
   rw [tell_no fun h=>by have:=(h i hi).1;omega]
  by_cases h2:l[i] < c
  case neg =>
   refine Ev.bind (a:=false) (Ev.const (by rw [if_pos h1,decide_eq_false h2])) (Ev.neg (by simp) (Ev.const ?_))
   rw [tell_no fun h=>by have:=(h i hi).2.1;omega]
  refine Ev.bind (a:=true) (Ev.const (by rw [if_pos h1,decide_eq_true h2])) (Ev.pos rfl ?_)
  have next:(0 < i→l[i - 1]'(by omega) < l[i])→Ev (fun k=>impl_areRising.l0 k l c l (l.length:Int) ((i:Int) + 1)) (tell (ris l c)):=fun hn=>ih fun j hj hji=>by
   by_cases e:j=i
   ·subst e;exact ⟨by omega,by omega,hn⟩
   ·exact g j hj (by omega)
  by_cases h3:0 < i
  ·refine Ev.pos (by omega) ?_
   rw [wrap_id (by omega) (by omega),show (i:Int) - 1=((i - 1:Nat):Int) by omega,rd_nat (show i - 1 < l.length by omega)]
   refine Ev.pos (by omega) (Ev.pos (by omega) ?_)
   by_cases h4:l[i]≤l[i - 1]
   ·exact Ev.pos h4 (Ev.const (by rw [tell_no fun h=>by have:=(h i hi).2.2 h3;omega]))
   ·exact Ev.neg h4 (next fun _=>by omega)
  ·exact Ev.neg (by omega) (next fun h=>absurd h h3)
def oth (l:List Int) (a:Int):List Int:=l.filter fun x=>!(x == a)
theorem oth_mem {l:List Int} {a x:Int} (h:x∈oth l a):x∈l:=(List.mem_filter.1 h).1
theorem oth_len (l:List Int) (a:Int):(oth l a).length≤l.length:=List.length_filter_le _ _
theorem without_ev (l:List Int) (a:Int) (hl:l.length≤1048576):Ev (fun k=>spec_l11Without.f k l a) (oth l a):=by
 have loop:=loop_up (n:=l.length) (P:=fun i=>Ev (fun k=>spec_l11Without.l0 k a (oth (l.take i) a) l (l.length:Int) (i:Int)) (oth l a)) ?_ ?_
 ·exact loop 0 (Nat.zero_le _)
 ·refine Ev.succ ?_
  simp only [spec_l11Without.l0]
  exact Ev.neg (by omega) (Ev.const (by rw [List.take_length]))
 ·intro i hi ih
  refine Ev.succ ?_
  simp only [spec_l11Without.l0]
  rw [rd_nat hi,wrap_add (by omega) (by omega)]
  refine Ev.pos (by omega) (Ev.pos (by omega) (Ev.pos (by omega) ?_))
  have htk:oth (l.take (i + 1)) a=oth (l.take i) a++(if l[i]=a then [] else [l[i]]):=by
   unfold oth
   rw [List.take_succ_eq_append_getElem hi,List.filter_append]
   congr 1
   by_cases c:l[i]=a
   ·simp [c]
   ·simp [c]
  rw [htk] at ih
  by_cases c:l[i]=a
  ·refine Ev.pos c ?_
   rw [if_pos c,List.append_nil] at ih
   exact ih
  ·refine Ev.neg c (Ev.pos ?_ ?_)
   ·have h1:=oth_len (l.take i) a
    have h2:(l.take i).length≤l.length:=by simp;omega
    omega
   ·rw [if_neg c] at ih
    exact ih
def bitS (k:Int):Int:=shl .i64 1 k
theorem bitS_ok {k:Int} (h0:0≤k) (h5:k≤5):isSet (bitS k)∧setL (bitS k)=[k]:=by
 have key:∀ m:Fin 6,(0≤bitS (m.val:Int)∧bitS (m.val:Int) < 64)∧setL (bitS (m.val:Int))=[(m.val:Int)]:=by decide +kernel
 obtain ⟨m,rfl⟩:=fin_num h0 h5
 exact key m
theorem minus_list {s k:Int} (hs:isSet s) (h0:0≤k) (h5:k≤5):isSet (minusS s (bitS k))∧setL (minusS s (bitS k))=(setL s).filter (fun x=>!(x == k)):=by
 obtain ⟨b1,b2⟩:=bitS_ok h0 h5
 obtain ⟨a,b⟩:=minusS_eq hs b1
 refine ⟨a,?_⟩
 rw [b,b2]
 congr 1
 funext x
 by_cases e:x=k
 ·subst e;simp
 ·have e2:¬ k=x:=fun h=>e h.symm
  simp [e]
/-! ### good statistics -/
structure GoodS (sz : List Int) (fc : List (List Int)) : Prop where
 n1:1≤sz.length
 n6:sz.length≤6
 len:fc.length=sz.length
 szs:∀ n∈sz,1≤n∧n≤50
 rows:∀ i,(hi:i < fc.length)→fc[i].length=i∧∀ f∈fc[i],1≤f∧f≤10
theorem l1In_some (a lo hi:Int):spec_l1In.f a lo hi=some (decide (lo≤a∧a≤hi)):=by
 unfold spec_l1In.f
 by_cases h:lo≤a
 ·rw [if_pos h];simp [h]
 ·rw [if_neg (by omega)];simp [h]
theorem within_some (a lo hi:Int):impl_within.f a lo hi=some (decide (lo≤a∧a≤hi)):=by
 unfold impl_within.f
 by_cases h:lo≤a
 ·rw [if_pos h];simp [h]
 ·rw [if_neg (by omega)];simp [h]
theorem rdLL_nat {l:List (List Int)} {i:Nat} (h:i < l.length):rd_L1 l (i:Int)=l[i]:=by simp [rd_L1,h]
theorem specGood_ev (sz:List Int) (fc:List (List Int)) (hs:sz.length≤1048576) (hf:fc.length≤1048576) (hx:∀ x∈fc,x.length≤1048576):Ev (fun k=>spec_GoodStats.f k sz fc) (tell (GoodS sz fc)):=by
 unfold spec_GoodStats.f
 rw [l1In_some]
 have bad:¬ GoodS sz fc→Ev (fun k=>spec_GoodStats.j0 k true sz fc) (tell (GoodS sz fc)):=fun h=>Ev.succ (by simp only [spec_GoodStats.j0];exact Ev.pos trivial (Ev.const (by rw [tell_no h])))
 by_cases h1:1≤(sz.length:Int)∧(sz.length:Int)≤6
 case neg =>
  refine Ev.bind (Ev.const rfl) (Ev.neg (by simpa using h1) (bad fun g=>?_))
  have:=g.n1;have:=g.n6;omega
 refine Ev.bind (Ev.const rfl) (Ev.pos (decide_eq_true h1) ?_)
 by_cases h2:fc.length=sz.length
 case neg =>
  rw [show ((fc.length:Int) != (sz.length:Int))=true from bne_iff_ne.mpr (by omega)]
  exact bad fun g=>h2 g.len
 rw [show ((fc.length:Int) != (sz.length:Int))=false from bne_eq_false_iff_eq.mpr (by omega)]
 refine Ev.succ ?_
 simp only [spec_GoodStats.j0]
 refine Ev.neg (by simp) ?_
 have loop:=loop_up (n:=sz.length) (P:=fun i=>(∀ j,(hj:j < sz.length)→j < i→(1≤sz[j]∧sz[j]≤50)∧(fc[j]'(by omega)).length=j∧∀ f∈fc[j]'(by omega),1≤f∧f≤10)→Ev (fun k=>spec_GoodStats.l0 k sz (sz.length:Int) (i:Int) sz fc) (tell (GoodS sz fc))) ?_ ?_
 ·exact loop 0 (Nat.zero_le _) (fun j _ h=>absurd h (Nat.not_lt_zero _))
 ·intro g
  refine Ev.succ ?_
  simp only [spec_GoodStats.l0]
  refine Ev.neg (by omega) (Ev.const ?_)
  rw [tell_yes]
  refine ⟨by omega,by omega,h2,fun n hn=>?_,fun i hi=>(g i (by omega) (by omega)).2⟩
  obtain ⟨j,hj,rfl⟩:=List.getElem_of_mem hn
  exact (g j hj hj).1
 ·intro i hi ih g
  have hi2:i < fc.length:=by omega
  refine Ev.succ ?_
  simp only [spec_GoodStats.l0]
  rw [rd_nat hi,rdLL_nat hi2,l1In_some]
  refine Ev.pos (by omega) (Ev.pos (by omega) (Ev.pos (by omega) ?_))
  by_cases h3:1≤sz[i]∧sz[i]≤50
  case neg =>
   refine Ev.bind (Ev.const rfl) (Ev.neg (by simpa using h3) (Ev.succ ?_))
   simp only [spec_GoodStats.j2]
   exact Ev.pos trivial (Ev.const (by rw [tell_no fun g=>h3 (g.szs _ (List.getElem_mem hi))]))
  refine Ev.bind (Ev.const rfl) (Ev.pos (decide_eq_true h3) (Ev.pos (by omega) ?_))
  by_cases h4:fc[i].length=i
  case neg =>
   rw [show ((fc[i].length:Int) != (i:Int))=true from bne_iff_ne.mpr (by omega)]
   refine Ev.succ ?_
   simp only [spec_GoodStats.j2]
   exact Ev.pos trivial (Ev.const (by rw [tell_no fun g=>h4 (g.rows i hi2).1]))
  rw [show ((fc[i].length:Int) != (i:Int))=false from bne_eq_false_iff_eq.mpr (by omega)]
  refine Ev.succ ?_
  simp only [spec_GoodStats.j2]
  rw [rdLL_nat hi2]
  refine Ev.neg (by simp) (Ev.pos (by omega) (Ev.pos (by omega) ?_))
  obtain ⟨y,hy⟩:∃ y,y=fc[i]:=⟨_,rfl⟩
  rw [← hy] at h4 ⊢
  have inner:=loop_up (n:=y.length) (P:=fun m=>(∀ q,(hq:q < y.length)→q < m→1≤y[q]∧y[q]≤10)→Ev (fun k=>spec_GoodStats.l1 k sz (sz.length:Int) (i:Int) y (y.length:Int) (m:Int) sz fc) (tell (GoodS sz fc))) ?_ ?_
  ·exact inner 0 (Nat.zero_le _) (fun j _ h=>absurd h (Nat.not_lt_zero _))
  ·intro gy
   refine Ev.succ ?_
   simp only [spec_GoodStats.l1]
   rw [wrap_add (a:=(i:Int)) (by omega) (by omega)]
   refine Ev.neg (by omega) (ih fun j hj hji=>?_)
   by_cases e:j=i
   ·subst e
    refine ⟨h3,by rw [← hy];exact h4,fun f hf2=>?_⟩
    rw [← hy] at hf2
    obtain ⟨q,hq,rfl⟩:=List.getElem_of_mem hf2
    exact gy q hq hq
   ·exact g j hj (by omega)
  ·intro m hm ihm gy
   refine Ev.succ ?_
   simp only [spec_GoodStats.l1]
   rw [rd_nat hm,wrap_add (a:=(m:Int)) (by omega) (by omega),l1In_some]
   refine Ev.pos (by omega) (Ev.pos (by omega) (Ev.pos (by omega) ?_))
   by_cases h5:1≤y[m]∧y[m]≤10
   case neg =>
    refine Ev.bind (Ev.const rfl) (Ev.neg (by simpa using h5) (Ev.const ?_))
    rw [tell_no fun g=>h5 ((g.rows i hi2).2 _ (by rw [← hy];exact List.getElem_mem hm))]
   refine Ev.bind (Ev.const rfl) (Ev.pos (decide_eq_true h5) (ihm fun q hq hqm=>?_))
   by_cases e:q=m
   ·subst e;exact h5
   ·exact gy q hq (by omega)
theorem all1_some (l:List Int):areAll_impl_GoodStats_1.f l=some (l.all fun d=>decide (1≤d∧d≤50)):=by
 have e:∀ d,impl_GoodStats_1.f d=some (decide (1≤d∧d≤50)):=fun d=>by unfold impl_GoodStats_1.f;rw [within_some];rfl
 unfold areAll_impl_GoodStats_1.f
 simp only [e,Option.isSome_some,Option.getD_some]
 rw [if_pos (by simp)]
theorem all2_some (l:List Int):areAll_impl_GoodStats_2.f l=some (l.all fun d=>decide (1≤d∧d≤10)):=by
 have e:∀ d,impl_GoodStats_2.f d=some (decide (1≤d∧d≤10)):=fun d=>by unfold impl_GoodStats_2.f;rw [within_some];rfl
 unfold areAll_impl_GoodStats_2.f
 simp only [e,Option.isSome_some,Option.getD_some]
 rw [if_pos (by simp)]
theorem implGood_ev (sz:List Int) (fc:List (List Int)) (hs:sz.length≤1048576) (hf:fc.length≤1048576):Ev (fun k=>impl_GoodStats.f k sz fc) (tell (GoodS sz fc)):=by
 unfold impl_GoodStats.f
 rw [within_some,all1_some]
 have bad:¬ GoodS sz fc→Ev (fun k=>impl_GoodStats.j0 k true sz fc) (tell (GoodS sz fc)):=fun h=>Ev.succ (by simp only [impl_GoodStats.j0];exact Ev.pos trivial (Ev.const (by rw [tell_no h])))
 by_cases h1:1≤(sz.length:Int)∧(sz.length:Int)≤6
 case neg =>
  refine Ev.bind (Ev.const rfl) (Ev.neg (by simpa using h1) (bad fun g=>?_))
  have:=g.n1;have:=g.n6;omega
 refine Ev.bind (Ev.const rfl) (Ev.pos (decide_eq_true h1) ?_)
 by_cases h2:fc.length=sz.length
 case neg=>exact Ev.neg (by omega) (bad fun g=>h2 g.len)
 refine Ev.pos (by omega) (Ev.bind (Ev.const rfl) ?_)
 cases h3:sz.all (fun d=>decide (1≤d∧d≤50)) with
 | false =>
  refine bad fun g=>?_
  have:sz.all (fun d=>decide (1≤d∧d≤50))=true:=List.all_eq_true.2 fun x hx=>decide_eq_true (g.szs x hx)
  rw [h3] at this;cases this
 | true =>
  refine Ev.succ ?_
  simp only [impl_GoodStats.j0]
  refine Ev.neg (by simp) ?_
  have loop:=loop_up (n:=fc.length) (P:=fun i=>(∀ j,(hj:j < fc.length)→j < i→fc[j].length=j∧∀ f∈fc[j],1≤f∧f≤10)→Ev (fun k=>impl_GoodStats.l0 k fc (fc.length:Int) (i:Int)) (tell (GoodS sz fc))) ?_ ?_
  ·exact loop 0 (Nat.zero_le _) (fun j _ h=>absurd h (Nat.not_lt_zero _))
  ·intro g
   refine Ev.succ ?_
   simp only [impl_GoodStats.l0]
   refine Ev.neg (by omega) (Ev.const ?_)
   rw [tell_yes]
   exact ⟨by omega,by omega,h2,fun n hn=>of_decide_eq_true (List.all_eq_true.1 h3 n hn),fun i hi=>g i hi hi⟩
  ·intro i hi ih g
   refine Ev.succ ?_
   simp only [impl_GoodStats.l0]
   rw [rdLL_nat hi,wrap_add (by omega) (by omega),all2_some]
   refine Ev.pos (by omega) (Ev.pos (by omega) (Ev.pos (by omega) ?_))
   by_cases h4:fc[i].length=i
   case neg=>exact Ev.neg (by omega) (Ev.const (by rw [tell_no fun g=>h4 (g.rows i hi).1]))
   refine Ev.pos (by omega) (Ev.bind (Ev.const rfl) ?_)
   cases h5:fc[i].all (fun d=>decide (1≤d∧d≤10)) with
   | false =>
    refine Ev.neg (by simp) (Ev.const ?_)
    rw [tell_no fun g=>?_]
    have:fc[i].all (fun d=>decide (1≤d∧d≤10))=true:=List.all_eq_true.2 fun x hx=>decide_eq_true ((g.rows i hi).2 x hx)
    rw [h5] at this;cases this
   | true =>
    refine Ev.pos rfl (ih fun j hj hji=>?_)
    by_cases e:j=i
    ·subst e;exact ⟨h4,fun f hf2=>of_decide_eq_true (List.all_eq_true.1 h5 f hf2)⟩
    ·exact g j hj (by omega)
/-! ### how great a join is, and what an order costs -/
/-- What is multiplied up to a place: sizes, and factors of pairs. -/
def st (sz:List Int) (fc:List (List Int)) (l:List Int):Nat→Int × Int
 | 0=>(1,1)
 | i + 1=>(wrap64 ((st sz fc l i).1 * rd sz (rd l i)),(l.take i).foldl (fun d o=>wrap64 (d * rd (rd_L1 fc (rd l i)) o)) (st sz fc l i).2)
def sizeV (sz:List Int) (fc:List (List Int)) (l:List Int):Int:=wrap64 (Int.tdiv (st sz fc l l.length).1 (st sz fc l l.length).2)
/-- Sorted numbers of tables. -/
structure Srt (sz : List Int) (l : List Int) : Prop where
 pw:l.Pairwise (· < ·)
 mem:∀ x∈l,0≤x∧x < (sz.length:Int)
theorem pw_idx {l:List Int} (h:l.Pairwise (· < ·)) {i j:Nat} (hi:i < l.length) (hj:j < l.length) (hij:i < j):l[i] < l[j]:=List.pairwise_iff_getElem.1 h i j hi hj hij
theorem rd_fac {sz:List Int} {fc:List (List Int)} (g:GoodS sz fc) {a o:Int} (ha:0≤a∧a < (sz.length:Int)) (ho:0≤o) (hlt:o < a):a < (fc.length:Int)∧o < ((rd_L1 fc a).length:Int)∧1≤rd (rd_L1 fc a) o∧rd (rd_L1 fc a) o≤10:=by
 obtain ⟨m,rfl⟩:∃ m:Nat,a=(m:Int):=⟨a.toNat,by omega⟩
 obtain ⟨q,rfl⟩:∃ q:Nat,o=(q:Int):=⟨o.toNat,by omega⟩
 have hm:m < fc.length:=by have:=g.len;omega
 obtain ⟨r1,r2⟩:=g.rows m hm
 rw [rdLL_nat hm,rd_nat (show q < fc[m].length by omega)]
 have:=r2 _ (List.getElem_mem (show q < fc[m].length by omega))
 exact ⟨by omega,by omega,this.1,this.2⟩
def bd : Nat→Int
 | 0=>1
 | 1=>1
 | 2=>10
 | 3=>1000
 | 4=>1000000
 | 5=>10000000000
 | _=>1000000000000000
theorem mul_le {d D f:Int} (d1:1≤d) (d2:d≤D) (f1:1≤f) (f2:f≤10) (hD:D * 10≤1000000000000000):wrap64 (d * f)=d * f∧1≤d * f∧d * f≤D * 10:=by
 have h1:d * f≤d * 10:=Int.mul_le_mul_of_nonneg_left f2 (by omega)
 have h2:d * 1≤d * f:=Int.mul_le_mul_of_nonneg_left f1 (by omega)
 have h3:d * f≤D * 10:=by omega
 exact ⟨by unfold wrap64;omega,by omega,h3⟩
theorem ten_pos : ∀ n:Nat,(1:Int)≤10 ^ n
 | 0=>by simp
 | n + 1=>by rw [Int.pow_succ];have:=ten_pos n;omega
theorem fold_le {fr:List Int}:∀ (m:List Int) (d D:Int) ,(∀ o∈m,1≤rd fr o∧rd fr o≤10)→1≤d→d≤D→D * 10 ^ m.length≤1000000000000000→1≤D →
  1≤m.foldl (fun d o=>wrap64 (d * rd fr o)) d∧m.foldl (fun d o=>wrap64 (d * rd fr o)) d≤D * 10 ^ m.length
 | [],d,D,_,h1,h2,_,_=>⟨h1,by simpa using h2⟩
 | o :: m,d,D,hm,h1,h2,h3,hD=>by
  have e:D * 10 ^ (o :: m).length=D * 10 * 10 ^ m.length:=by rw [List.length_cons,Int.pow_succ,Int.mul_comm (10 ^ m.length) 10,Int.mul_assoc]
  rw [e] at h3 ⊢
  have p1:(1:Int)≤10 ^ m.length:=ten_pos m.length
  have p2:D * 10 * 1≤D * 10 * 10 ^ m.length:=Int.mul_le_mul_of_nonneg_left p1 (by omega)
  obtain ⟨f1,f2⟩:=hm o List.mem_cons_self
  obtain ⟨w,w1,w2⟩:=mul_le h1 h2 f1 f2 (by omega)
  rw [List.foldl_cons,w]
  exact fold_le m _ _ (fun x hx=>hm x (List.mem_cons_of_mem _ hx)) w1 w2 h3 (by omega)
theorem st_le {sz:List Int} {fc:List (List Int)} (g:GoodS sz fc) {l:List Int} (hl:Srt sz l) (h6:l.length≤6):∀ i,i≤l.length→1≤(st sz fc l i).2∧(st sz fc l i).2≤bd i
 | 0,_=>by simp [st,bd]
 | i + 1,hi=>by
  obtain ⟨a,b⟩:=st_le g hl h6 i (by omega)
  have hil:i < l.length:=by omega
  have hln:(l.take i).length=i:=by simp;omega
  have hm:∀ o∈l.take i,1≤rd (rd_L1 fc l[i]) o∧rd (rd_L1 fc l[i]) o≤10:=by
   intro o ho
   obtain ⟨j,hj,rfl⟩:=List.getElem_of_mem ho
   have hj2:j < i:=by omega
   rw [List.getElem_take]
   have:=rd_fac g (hl.mem _ (List.getElem_mem hil)) (hl.mem _ (List.getElem_mem (show j < l.length by omega))).1 (pw_idx hl.pw (by omega) hil hj2)
   exact this.2.2
  have key:1≤bd i∧bd i * 10 ^ i≤bd (i + 1)∧bd (i + 1)≤1000000000000000:=by
   rcases (show i=0 ∨ i=1 ∨ i=2 ∨ i=3 ∨ i=4 ∨ i=5 by omega) with rfl | rfl | rfl | rfl | rfl | rfl <;> decide
  have:=fold_le (fr:=rd_L1 fc l[i]) (l.take i) _ (bd i) hm a b (by rw [hln];omega) key.1
  rw [hln] at this
  simp only [st]
  rw [rd_nat hil]
  exact ⟨this.1,by omega⟩
theorem foldl_step {fr:List Int} {l:List Int} {i j:Nat} (hj:j < l.length) (hji:j < i) (d:Int):(l.take (j + 1)).foldl (fun d o=>wrap64 (d * rd fr o)) d=wrap64 ((l.take j).foldl (fun d o=>wrap64 (d * rd fr o)) d * rd fr l[j]):=by
 rw [List.take_succ_eq_append_getElem hj,List.foldl_append];rfl
theorem specSize_ev {sz:List Int} {fc:List (List Int)} (g:GoodS sz fc) {l:List Int} (hl:Srt sz l) (h6:l.length≤6):Ev (fun k=>spec_l12Size.f k sz fc l) (sizeV sz fc l):=by
 have loop:=loop_up (n:=l.length) (P:=fun i=>Ev (fun k=>spec_l12Size.l0 k l (st sz fc l i).1 (st sz fc l i).2 l (l.length:Int) (i:Int) sz fc) (sizeV sz fc l)) ?_ ?_
 ·unfold spec_l12Size.f
  exact loop 0 (Nat.zero_le _)
 ·refine Ev.succ ?_
  simp only [spec_l12Size.l0]
  have:=(st_le g hl h6 l.length (Nat.le_refl _)).1
  exact Ev.neg (by omega) (Ev.neg (by omega) (Ev.const rfl))
 ·intro i hi ih
  have hm:=hl.mem _ (List.getElem_mem hi)
  refine Ev.succ ?_
  simp only [spec_l12Size.l0]
  rw [rd_nat hi,Int.toNat_natCast]
  refine Ev.pos (by omega) (Ev.pos (by omega) (Ev.pos (by omega) (Ev.pos (by omega) (Ev.pos (by omega) (Ev.pos (by omega) ?_)))))
  obtain ⟨y,hy⟩:∃ y,y=l.take i:=⟨_,rfl⟩
  have hyl:y.length=i:=by rw [hy];simp;omega
  rw [← hy]
  have inner:=loop_up (n:=y.length) (P:=fun m=>Ev (fun k=>spec_l12Size.l1 k l (wrap64 ((st sz fc l i).1 * rd sz l[i])) ((y.take m).foldl (fun d o=>wrap64 (d * rd (rd_L1 fc l[i]) o)) (st sz fc l i).2) l[i] l (l.length:Int) (i:Int) y (y.length:Int) (m:Int) sz fc) (sizeV sz fc l)) ?_ ?_
  ·exact inner 0 (Nat.zero_le _)
  ·refine Ev.succ ?_
   simp only [spec_l12Size.l1]
   rw [wrap_add (a:=(i:Int)) (by omega) (by omega),List.take_length]
   refine Ev.neg (by omega) ?_
   have e:st sz fc l (i + 1)=(wrap64 ((st sz fc l i).1 * rd sz l[i]),y.foldl (fun d o=>wrap64 (d * rd (rd_L1 fc l[i]) o)) (st sz fc l i).2):=by simp only [st];rw [rd_nat hi,hy]
   rw [e] at ih
   exact ih
  ·intro m hmm ihm
   have hml:m < l.length:=by omega
   have hym:y[m]=l[m]:=by simp only [hy,List.getElem_take]
   have hmo:=hl.mem _ (List.getElem_mem hml)
   obtain ⟨f1,f2,_,_⟩:=rd_fac g hm hmo.1 (pw_idx hl.pw hml hi (by omega))
   refine Ev.succ ?_
   simp only [spec_l12Size.l1]
   rw [rd_nat hmm,wrap_add (a:=(m:Int)) (by omega) (by omega),hym]
   refine Ev.pos (by omega) (Ev.pos (by omega) (Ev.pos (by omega) (Ev.pos (by omega) (Ev.pos (by omega) (Ev.pos (by omega) (Ev.pos (by omega) ?_))))))
   rw [List.take_succ_eq_append_getElem hmm,List.foldl_append,hym] at ihm
   exact ihm
theorem take_lt {l:List Int} (h:l.Pairwise (· < ·)) {i:Nat} (hi:i < l.length):∀ m,m≤l.length→(l.take m).filter (fun o=>decide (o < l[i]))=l.take (min m i)
 | 0,_=>by simp
 | m + 1,hm=>by
  have hml:m < l.length:=by omega
  rw [List.take_succ_eq_append_getElem hml,List.filter_append,take_lt h hi m (by omega)]
  by_cases c:m < i
  ·rw [List.filter_cons_of_pos (by simpa using pw_idx h hml hi c),List.filter_nil,Nat.min_eq_left (by omega),Nat.min_eq_left (by omega),List.take_succ_eq_append_getElem hml]
  ·have:¬ l[m] < l[i]:=by
    rcases Nat.lt_or_ge i m with h2 | h2
    ·have:=pw_idx h hi hml h2;omega
    ·obtain rfl:m=i:=by omega
     omega
   rw [List.filter_cons_of_neg (by simpa using this),List.filter_nil,List.append_nil,Nat.min_eq_right (by omega),Nat.min_eq_right (by omega)]
theorem implSize_ev {sz:List Int} {fc:List (List Int)} (g:GoodS sz fc) {s:Int} (hs:isSet s) (hl:Srt sz (setL s)):Ev (fun k=>impl_Stats_size.f k sz fc s) (sizeV sz fc (setL s)):=by
 have h6:=setL_len s
 unfold impl_Stats_size.f
 refine Ev.bind (setL_ev s hs.1 hs.2) ?_
 obtain ⟨l,hll⟩:∃ l,l=setL s:=⟨_,rfl⟩
 rw [← hll] at hl h6 ⊢
 have loop:=loop_up (n:=l.length) (P:=fun i=>Ev (fun k=>impl_Stats_size.l0 k s (st sz fc l i).1 (st sz fc l i).2 l (l.length:Int) (i:Int) sz fc) (sizeV sz fc l)) ?_ ?_
 ·exact loop 0 (Nat.zero_le _)
 ·refine Ev.succ ?_
  simp only [impl_Stats_size.l0]
  have:=(st_le g hl h6 l.length (Nat.le_refl _)).1
  exact Ev.neg (by omega) (Ev.neg (by omega) (Ev.const rfl))
 ·intro i hi ih
  have hm:=hl.mem _ (List.getElem_mem hi)
  refine Ev.succ ?_
  simp only [impl_Stats_size.l0]
  rw [rd_nat hi]
  have hev:=setL_ev s hs.1 hs.2
  rw [← hll] at hev
  refine Ev.pos (by omega) (Ev.pos (by omega) (Ev.pos (by omega) (Ev.pos (by omega) (Ev.pos (by omega) (Ev.bind hev ?_)))))
  have inner:=loop_up (n:=l.length) (P:=fun m=>Ev (fun k=>impl_Stats_size.l1 k s (wrap64 ((st sz fc l i).1 * rd sz l[i])) (((l.take m).filter (fun o=>decide (o < l[i]))).foldl (fun d o=>wrap64 (d * rd (rd_L1 fc l[i]) o)) (st sz fc l i).2) l[i] l (l.length:Int) (i:Int) l (l.length:Int) (m:Int) sz fc) (sizeV sz fc l)) ?_ ?_
  ·exact inner 0 (Nat.zero_le _)
  ·refine Ev.succ ?_
   simp only [impl_Stats_size.l1]
   rw [wrap_add (a:=(i:Int)) (by omega) (by omega),take_lt hl.pw hi l.length (Nat.le_refl _),Nat.min_eq_right (by omega)]
   refine Ev.neg (by omega) ?_
   have e:st sz fc l (i + 1)=(wrap64 ((st sz fc l i).1 * rd sz l[i]),(l.take i).foldl (fun d o=>wrap64 (d * rd (rd_L1 fc l[i]) o)) (st sz fc l i).2):=by simp only [st];rw [rd_nat hi]
   rw [e] at ih
   exact ih
  ·intro m hml ihm
   have hmo:=hl.mem _ (List.getElem_mem hml)
   refine Ev.succ ?_
   simp only [impl_Stats_size.l1]
   rw [rd_nat hml,wrap_add (a:=(m:Int)) (by omega) (by omega)]
   rw [List.take_succ_eq_append_getElem hml,List.filter_append,List.foldl_append] at ihm
   refine Ev.pos (by omega) (Ev.pos (by omega) (Ev.pos (by omega) ?_))
   by_cases c:l[m] < l[i]
   ·obtain ⟨f1,f2,_,_⟩:=rd_fac g hm hmo.1 c
    rw [List.filter_cons_of_pos (by simpa using c),List.filter_nil] at ihm
    exact Ev.pos c (Ev.pos (by omega) (Ev.pos (by omega) (Ev.pos (by omega) (Ev.pos (by omega) ihm))))
   ·rw [List.filter_cons_of_neg (by simpa using c),List.filter_nil] at ihm
    exact Ev.neg c ihm
/-- What is told in between by an order, up to a place. -/
def cst (sz:List Int) (fc:List (List Int)) (o:List Int):Nat→Int
 | 0=>0
 | i + 1=>if 0 < i then wrap64 (cst sz fc o i + sizeV sz fc (setL (setI (o.take (i + 1))))) else 0
def cost (sz:List Int) (fc:List (List Int)) (o:List Int):Int:=cst sz fc o o.length
theorem cst_same {sz:List Int} {fc:List (List Int)} (o:List Int) (a:Int):∀ i,i≤o.length→cst sz fc (o++[a]) i=cst sz fc o i
 | 0,_=>rfl
 | i + 1,h=>by
  simp only [cst]
  rw [cst_same o a i (by omega),List.take_append_of_le_length h]
theorem cost_end {sz:List Int} {fc:List (List Int)} {o:List Int} (a:Int) (ho:o ≠ []):cost sz fc (o++[a])=wrap64 (cost sz fc o + sizeV sz fc (setL (setI (o++[a])))):=by
 have hp:0 < o.length:=List.length_pos_iff.2 ho
 unfold cost
 rw [List.length_append,List.length_singleton]
 simp only [cst]
 rw [if_pos hp,cst_same o a o.length (Nat.le_refl _),List.take_of_length_le (by simp)]
theorem setI_set {sz:List Int} (hn:sz.length≤6) {o:List Int} (h:∀ x∈o,0≤x∧x < (sz.length:Int)):isSet (setI o)∧Srt sz (setL (setI o)):=by
 obtain ⟨k1,k2⟩:=orB_foldl o 0 ⟨by omega,by omega⟩ (fun x hx=>by have:=h x hx;omega)
 refine ⟨k1,setL_pw _,fun x hx=>?_⟩
 unfold setI at hx
 rw [k2,mem_foldl_putL] at hx
 rcases hx with hx | hx
 ·rw [show setL 0=[] from by decide +kernel] at hx;cases hx
 ·exact h x hx
theorem specCost_ev {sz:List Int} {fc:List (List Int)} (g:GoodS sz fc) {o:List Int} (h:∀ x∈o,0≤x∧x < (sz.length:Int)) (hl:o.length≤1000):Ev (fun k=>spec_l12Cost.f k sz fc o) (cost sz fc o):=by
 have n6:=g.n6
 have loop:=loop_up (n:=o.length) (P:=fun i=>Ev (fun k=>spec_l12Cost.l0 k (cst sz fc o i) (setL (setI (o.take i))) o (o.length:Int) (i:Int) sz fc) (cost sz fc o)) ?_ ?_
 ·unfold spec_l12Cost.f
  have:=loop 0 (Nat.zero_le _)
  rw [List.take_zero,show setL (setI [])=[] from by decide +kernel] at this
  exact this
 ·refine Ev.succ ?_
  simp only [spec_l12Cost.l0]
  exact Ev.neg (by omega) (Ev.const rfl)
 ·intro i hi ih
  have hx:=h _ (List.getElem_mem hi)
  obtain ⟨s1,_⟩:=setI_set n6 (o:=o.take i) (fun x hx=>h x (List.mem_of_mem_take hx))
  obtain ⟨s2,s3⟩:=setI_set n6 (o:=o.take (i + 1)) (fun x hx=>h x (List.mem_of_mem_take hx))
  have e:setI (o.take (i + 1))=orB (setI (o.take i)) o[i]:=by unfold setI;rw [List.take_succ_eq_append_getElem hi,List.foldl_append];rfl
  refine Ev.succ ?_
  simp only [spec_l12Cost.l0]
  rw [rd_nat hi,wrap_add (by omega) (by omega)]
  refine Ev.pos (by omega) (Ev.pos (by omega) (Ev.pos (by omega) (Ev.bind (l7Put_set _ _ s1 hx.1 (by omega)) ?_)))
  rw [← e]
  simp only [cst] at ih
  by_cases c:0 < i
  ·rw [if_pos c] at ih
   exact Ev.pos (by omega) (Ev.bind (specSize_ev g s3 (setL_len _)) ih)
  ·rw [if_neg c] at ih
   obtain rfl:i=0:=by omega
   exact Ev.neg (by omega) ih
/-! ### the best order -/
def bef : List Int→List Int→Bool
 | a :: l,b :: m=>if a=b then bef l m else decide (a < b)
 | _,_=>false
theorem specBefore_ev (a b:List Int) (hl:a.length=b.length) (hs:a.length≤1000):Ev (fun k=>spec_l12Before.f k a b) (bef a b):=by
 have loop:=loop_up (n:=a.length) (P:=fun i=>Ev (fun k=>spec_l12Before.l0 k a b (a.length:Int) (i:Int)) (bef (a.drop i) (b.drop i))) ?_ ?_
 ·unfold spec_l12Before.f
  exact loop 0 (Nat.zero_le _)
 ·refine Ev.succ ?_
  simp only [spec_l12Before.l0]
  rw [List.drop_eq_nil_of_le (Nat.le_refl _)]
  exact Ev.neg (by omega) (Ev.const rfl)
 ·intro i hi ih
  have hib:i < b.length:=by omega
  refine Ev.succ ?_
  simp only [spec_l12Before.l0]
  rw [rd_nat hi,rd_nat hib,wrap_add (by omega) (by omega),List.drop_eq_getElem_cons hi,List.drop_eq_getElem_cons hib]
  refine Ev.pos (by omega) (Ev.pos (by omega) (Ev.pos (by omega) (Ev.pos (by omega) ?_)))
  by_cases c:a[i]=b[i]
  ·refine Ev.pos c ?_
   rw [bef,if_pos c];exact ih
  ·refine Ev.neg c (Ev.const ?_)
   rw [bef,if_neg c]
def cmpv : List Int→List Int→Int
 | a :: l,b :: m=>if a=b then cmpv l m else if a < b then -1 else 1
 | _,_=>0
theorem cmpv_bef : ∀ a b:List Int,decide (cmpv a b < 0)=bef a b
 | [],b=>by simp [cmpv,bef]
 | a :: l,[]=>by simp [cmpv,bef]
 | a :: l,b :: m=>by
  rw [cmpv,bef]
  by_cases c:a=b
  ·rw [if_pos c,if_pos c];exact cmpv_bef l m
  ·rw [if_neg c,if_neg c]
   by_cases d:a < b
   ·rw [if_pos d];simp [d]
   ·rw [if_neg d];simp [d]
theorem compare_some (a b:Int):cmp_Compare_int.f a b=some (if a < b then -1 else if a > b then 1 else 0):=by
 have e:∀ x:Int,cmp_isNaN_int.f x=some false:=fun x=>by unfold cmp_isNaN_int.f;rw [bne_self_eq_false]
 unfold cmp_Compare_int.f
 rw [e,e]
 simp only [Option.bind_some]
 rw [if_neg (by simp),if_neg (by simp)]
 by_cases h:a < b
 ·rw [if_pos h,if_pos h]
 ·rw [if_neg h,if_neg h]
  by_cases h2:a > b
  ·rw [if_pos h2,if_pos h2]
  ·rw [if_neg h2,if_neg h2]
theorem implCompare_ev (a b:List Int) (hl:a.length=b.length) (hs:a.length≤1000):Ev (fun k=>slices_Compare_int_int.f k a b) (cmpv a b):=by
 have loop:=loop_up (n:=a.length) (P:=fun i=>Ev (fun k=>slices_Compare_int_int.l0 k a b a (a.length:Int) (i:Int)) (cmpv (a.drop i) (b.drop i))) ?_ ?_
 ·unfold slices_Compare_int_int.f
  exact loop 0 (Nat.zero_le _)
 ·refine Ev.succ ?_
  simp only [slices_Compare_int_int.l0]
  rw [List.drop_eq_nil_of_le (Nat.le_refl _),List.drop_eq_nil_of_le (by omega)]
  exact Ev.neg (by omega) (Ev.neg (by omega) (Ev.const rfl))
 ·intro i hi ih
  have hib:i < b.length:=by omega
  refine Ev.succ ?_
  simp only [slices_Compare_int_int.l0]
  rw [rd_nat hi,rd_nat hib,compare_some,wrap_add (by omega) (by omega),List.drop_eq_getElem_cons hi,List.drop_eq_getElem_cons hib]
  refine Ev.pos (by omega) (Ev.pos (by omega) (Ev.pos (by omega) (Ev.neg (by omega) (Ev.pos (by omega) (Ev.bind (Ev.const rfl) ?_)))))
  rw [cmpv]
  by_cases c:a[i]=b[i]
  ·rw [if_pos c]
   refine Ev.pos ?_ ih
   rw [if_neg (by omega),if_neg (by omega)]
  ·rw [if_neg c]
   by_cases d:a[i] < b[i]
   ·rw [if_pos d,if_pos d];exact Ev.neg (by omega) (Ev.const rfl)
   ·rw [if_neg d,if_neg d,if_pos (by omega)];exact Ev.neg (by omega) (Ev.const rfl)
def pick (sz:List Int) (fc:List (List Int)) (b o:List Int):List Int :=
 if b.length=0 then o else if cost sz fc o < cost sz fc b then o else if cost sz fc o=cost sz fc b then (if bef o b=true then o else b) else b
theorem pick_or (sz:List Int) (fc:List (List Int)) (b o:List Int):pick sz fc b o=o ∨ (pick sz fc b o=b∧b.length ≠ 0):=by
 unfold pick
 by_cases h:b.length=0
 ·rw [if_pos h];exact .inl rfl
 ·rw [if_neg h]
  split
  ·exact .inl rfl
  ·split
   ·split
    ·exact .inl rfl
    ·exact .inr ⟨rfl,h⟩
   ·exact .inr ⟨rfl,h⟩
def bst (sz:List Int) (fc:List (List Int)):Nat→Int→List Int
 | 0,_=>[]
 | f + 1,s=>if (setL s).length=1 then setL s else (setL s).foldl (fun b a=>pick sz fc b (bst sz fc f (minusS s (bitS a))++[a])) []
structure OkB (s : Int) (o : List Int) : Prop where
 len:o.length=(setL s).length
 mem:∀ x∈o,x∈setL s
 set:setI o=s
theorem foldl_pick {sz:List Int} {fc:List (List Int)} {c:Int→List Int} {P:List Int→Prop}:∀ (l b:List Int),(b.length=0 ∨ P b)→(∀ a∈l,P (c a))→(l ≠ [] ∨ P b)→P (l.foldl (fun b a=>pick sz fc b (c a)) b)
 | [],b,_,_,h=>h.elim (fun h=>absurd rfl h) id
 | a :: l,b,hb,hc,_=>by
  rw [List.foldl_cons]
  have hp:P (pick sz fc b (c a)):=by
   rcases pick_or sz fc b (c a) with e | ⟨e,h0⟩
   ·rw [e];exact hc a List.mem_cons_self
   ·rw [e];exact hb.elim (fun h=>absurd h h0) id
  exact foldl_pick l _ (.inr hp) (fun x hx=>hc x (List.mem_cons_of_mem _ hx)) (.inr hp)
theorem setI_setL {s:Int} (hs:isSet s):setI (setL s)=s:=by
 obtain ⟨m,rfl⟩:=fin_set hs
 have key:∀ m:Fin 64,setI (setL (m.val:Int))=(m.val:Int):=by decide +kernel
 exact key m
theorem one_less {s a:Int} (hs:isSet s) (ha:a∈setL s):(0≤a∧a≤5)∧isSet (minusS s (bitS a))∧(setL (minusS s (bitS a))).length + 1=(setL s).length∧orB (minusS s (bitS a)) a=s:=by
 obtain ⟨m,rfl⟩:=fin_set hs
 obtain ⟨k,rfl,hk⟩:=mem_setL.1 ha
 have key:∀ (m:Fin 64) (k:Fin 6),m.val.testBit k.val=true→(0≤minusS (m.val:Int) (bitS (k.val:Int))∧minusS (m.val:Int) (bitS (k.val:Int)) < 64)∧(setL (minusS (m.val:Int) (bitS (k.val:Int)))).length + 1=(setL (m.val:Int)).length∧orB (minusS (m.val:Int) (bitS (k.val:Int))) (k.val:Int)=(m.val:Int):=by decide +kernel
 obtain ⟨k1,k2,k3⟩:=key m k hk
 exact ⟨⟨by omega,by have:=k.isLt;omega⟩,k1,k2,k3⟩
theorem cand_ok {s a:Int} {o:List Int} (hs:isSet s) (ha:a∈setL s) (ho:OkB (minusS s (bitS a)) o):OkB s (o++[a]):=by
 obtain ⟨⟨a0,a5⟩,k1,k2,k3⟩:=one_less hs ha
 obtain ⟨m1,m2⟩:=minus_list hs a0 a5
 refine ⟨?_,fun x hx=>?_,?_⟩
 ·rw [List.length_append,List.length_singleton,ho.len,k2]
 ·rcases List.mem_append.1 hx with hx | hx
  ·have:=ho.mem x hx
   rw [m2] at this
   exact (List.mem_filter.1 this).1
  ·obtain rfl:x=a:=by simpa using hx
   exact ha
 ·have e:setI (o++[a])=orB (setI o) a:=by unfold setI;rw [List.foldl_append];rfl
  rw [e,ho.set,k3]
theorem bst_ok (sz:List Int) (fc:List (List Int)):∀ (f:Nat) (s:Int),isSet s→1≤(setL s).length→(setL s).length≤f→OkB s (bst sz fc f s)
 | 0,s,_,h1,h2=>by omega
 | f + 1,s,hs,h1,h2=>by
  rw [bst]
  by_cases c:(setL s).length=1
  ·rw [if_pos c]
   exact ⟨rfl,fun x hx=>hx,setI_setL hs⟩
  ·rw [if_neg c]
   refine foldl_pick (c:=fun a=>bst sz fc f (minusS s (bitS a))++[a]) (setL s) [] (.inl rfl) (fun a ha=>?_) (.inl (fun e=>by rw [e] at h1;simp at h1))
   obtain ⟨_,k1,k2,_⟩:=one_less hs ha
   exact cand_ok hs ha (bst_ok sz fc f _ k1 (by omega) (by omega))
theorem ok_range {sz:List Int} {s:Int} (hl:Srt sz (setL s)) {o:List Int} (ho:OkB s o):∀ x∈o,0≤x∧x < (sz.length:Int):=fun x hx=>hl.mem x (ho.mem x hx)
theorem srt_less {sz:List Int} {s a:Int} (hs:isSet s) (hl:Srt sz (setL s)) (ha:a∈setL s):Srt sz (setL (minusS s (bitS a))):=by
 obtain ⟨⟨a0,a5⟩,_,_,_⟩:=one_less hs ha
 obtain ⟨_,m2⟩:=minus_list hs a0 a5
 exact ⟨setL_pw _,fun x hx=>hl.mem x (by rw [m2] at hx;exact (List.mem_filter.1 hx).1)⟩
theorem specBest_ev {sz:List Int} {fc:List (List Int)} (g:GoodS sz fc):∀ (f:Nat) (s:Int),isSet s→Srt sz (setL s)→1≤(setL s).length→(setL s).length≤f→Ev (fun k=>spec_l12Best.f k sz fc (setL s)) (bst sz fc f s)
 | 0,s,_,_,h1,h2=>by omega
 | f + 1,s,hs,hl,h1,h2=>by
  have h6:=setL_len s
  refine Ev.succ ?_
  simp only [spec_l12Best.f,Option.bind_some,List.nil_append,List.length_nil,Nat.zero_add]
  rw [bst]
  by_cases c:(setL s).length=1
  ·rw [if_pos c]
   exact Ev.pos (by omega) (Ev.pos (by omega) (Ev.const rfl))
  rw [if_neg c]
  refine Ev.neg (by omega) ?_
  obtain ⟨l,hll⟩:∃ l,l=setL s:=⟨_,rfl⟩
  have hl6:l.length≤6:=by rw [hll];exact h6
  have loop:=loop_up (n:=l.length) (P:=fun i=>∀ b:List Int,(b.length=0 ∨ OkB s b)→Ev (fun k=>spec_l12Best.l0 k l b l (l.length:Int) (i:Int) sz fc) ((l.drop i).foldl (fun b a=>pick sz fc b (bst sz fc f (minusS s (bitS a))++[a])) b)) ?_ ?_
  ·rw [← hll]
   exact loop 0 (Nat.zero_le _) [] (.inl rfl)
  ·intro b hb
   refine Ev.succ ?_
   simp only [spec_l12Best.l0]
   rw [List.drop_eq_nil_of_le (Nat.le_refl _)]
   exact Ev.neg (by omega) (Ev.const rfl)
  ·intro i hi ih b hb
   have ha:l[i]∈setL s:=by rw [← hll];exact List.getElem_mem hi
   obtain ⟨⟨a0,a5⟩,k1,k2,k3⟩:=one_less hs ha
   obtain ⟨_,m2⟩:=minus_list hs a0 a5
   have hIH:=specBest_ev g f _ k1 (srt_less hs hl ha) (by omega) (by omega)
   have hob:=bst_ok sz fc f _ k1 (by omega) (by omega)
   have hc:=cand_ok hs ha hob
   have ew:oth l l[i]=setL (minusS s (bitS l[i])):=by rw [m2,← hll];rfl
   have hw:=without_ev l l[i] (by rw [hll];omega)
   rw [ew] at hw
   obtain ⟨cc,hcc⟩:∃ cc,cc=bst sz fc f (minusS s (bitS l[i]))++[l[i]]:=⟨_,rfl⟩
   rw [← hcc] at hc
   have hlen:=hob.len
   refine Ev.succ ?_
   simp only [spec_l12Best.l0,Option.bind_some]
   rw [rd_nat hi,wrap_add (by omega) (by omega),List.drop_eq_getElem_cons hi,List.foldl_cons,← hcc]
   refine Ev.pos (by omega) (Ev.pos (by omega) (Ev.pos (by omega) (Ev.bind hw (Ev.bind hIH (Ev.pos (by simp;omega) ?_)))))
   rw [← hcc]
   have e6:=hc.len
   have cev:=specCost_ev g (ok_range hl hc) (by omega)
   by_cases d0:b.length=0
   ·rw [pick,if_pos d0]
    exact Ev.pos (by omega) (ih cc (.inr hc))
   have hbo:OkB s b:=hb.elim (fun h=>absurd h d0) id
   have e6b:=hbo.len
   have bev:=specCost_ev g (ok_range hl hbo) (by omega)
   rw [pick,if_neg d0]
   refine Ev.neg (by omega) (Ev.bind cev (Ev.bind bev ?_))
   by_cases d1:cost sz fc cc < cost sz fc b
   ·rw [if_pos d1]
    exact Ev.pos d1 (ih cc (.inr hc))
   rw [if_neg d1]
   refine Ev.neg d1 (Ev.bind cev (Ev.bind bev ?_))
   by_cases d2:cost sz fc cc=cost sz fc b
   ·rw [if_pos d2]
    refine Ev.pos d2 (Ev.bind (specBefore_ev cc b (by omega) (by omega)) ?_)
    by_cases d3:bef cc b=true
    ·rw [if_pos d3];exact Ev.pos d3 (ih cc (.inr hc))
    ·rw [if_neg d3];exact Ev.neg d3 (ih b (.inr hbo))
   ·rw [if_neg d2];exact Ev.neg d2 (ih b (.inr hbo))
theorem implBest_ev {sz:List Int} {fc:List (List Int)} (g:GoodS sz fc):∀ (f:Nat) (s:Int),isSet s→Srt sz (setL s)→1≤(setL s).length→(setL s).length≤f→Ev (fun k=>impl_Stats_best.f k sz fc s) (bst sz fc f s,cost sz fc (bst sz fc f s))
 | 0,s,_,_,h1,h2=>by omega
 | f + 1,s,hs,hl,h1,h2=>by
  have h6:=setL_len s
  refine Ev.succ ?_
  simp only [impl_Stats_best.f]
  refine Ev.bind (setL_ev s hs.1 hs.2) ?_
  rw [bst]
  by_cases c:(setL s).length=1
  ·rw [if_pos c]
   refine Ev.pos (by omega) (Ev.const ?_)
   unfold cost
   rw [c]
   simp [cst]
  rw [if_neg c]
  refine Ev.neg (by omega) ?_
  obtain ⟨l,hll⟩:∃ l,l=setL s:=⟨_,rfl⟩
  have hl6:l.length≤6:=by rw [hll];exact h6
  have loop:=loop_up (n:=l.length) (P:=fun i=>∀ b:List Int,(b.length=0 ∨ OkB s b)→Ev (fun k=>impl_Stats_best.l0 k s l (l.length:Int) (i:Int) sz fc b (cost sz fc b)) ((l.drop i).foldl (fun b a=>pick sz fc b (bst sz fc f (minusS s (bitS a))++[a])) b,cost sz fc ((l.drop i).foldl (fun b a=>pick sz fc b (bst sz fc f (minusS s (bitS a))++[a])) b))) ?_ ?_
  ·rw [← hll]
   exact loop 0 (Nat.zero_le _) [] (.inl rfl)
  ·intro b hb
   refine Ev.succ ?_
   simp only [impl_Stats_best.l0]
   rw [List.drop_eq_nil_of_le (Nat.le_refl _)]
   exact Ev.neg (by omega) (Ev.const rfl)
  ·intro i hi ih b hb
   have ha:l[i]∈setL s:=by rw [← hll];exact List.getElem_mem hi
   obtain ⟨⟨a0,a5⟩,k1,k2,k3⟩:=one_less hs ha
   have hIH:=implBest_ev g f _ k1 (srt_less hs hl ha) (by omega) (by omega)
   have hob:=bst_ok sz fc f _ k1 (by omega) (by omega)
   have hc:=cand_ok hs ha hob
   have hne:bst sz fc f (minusS s (bitS l[i])) ≠ []:=fun e=>by have:=hob.len;rw [e] at this;simp at this;omega
   have hce:=cost_end (sz:=sz) (fc:=fc) l[i] hne
   rw [hc.set] at hce
   obtain ⟨cc,hcc⟩:∃ cc,cc=bst sz fc f (minusS s (bitS l[i]))++[l[i]]:=⟨_,rfl⟩
   rw [← hcc] at hc hce
   have hlen:=hob.len
   refine Ev.succ ?_
   simp only [impl_Stats_best.l0,Option.bind_some]
   rw [rd_nat hi,wrap_add (by omega) (by omega),List.drop_eq_getElem_cons hi,List.foldl_cons,← hcc]
   refine Ev.pos (by omega) (Ev.pos (by omega) (Ev.pos (by omega) (Ev.pos (by omega) (Ev.bind hIH ?_))))
   refine Ev.bind (a:=bst sz fc f (minusS s (bitS l[i]))) (Ev.const (by unfold clone_Int.f;rw [if_pos (by simp only [];omega)])) (Ev.pos (by simp;omega) (Ev.bind (implSize_ev g hs hl) ?_))
   rw [← hcc]
   simp only []
   rw [← hce]
   have e6:=hc.len
   by_cases d0:b.length=0
   ·rw [pick,if_pos d0]
    exact Ev.pos (by omega) (ih cc (.inr hc))
   have hbo:OkB s b:=hb.elim (fun h=>absurd h d0) id
   have e6b:=hbo.len
   rw [pick,if_neg d0]
   refine Ev.neg (by omega) ?_
   by_cases d1:cost sz fc cc < cost sz fc b
   ·rw [if_pos d1]
    exact Ev.pos d1 (ih cc (.inr hc))
   rw [if_neg d1]
   refine Ev.neg d1 ?_
   by_cases d2:cost sz fc cc=cost sz fc b
   ·rw [if_pos d2]
    refine Ev.pos d2 (Ev.bind (implCompare_ev cc b (by omega) (by omega)) ?_)
    have eb:=cmpv_bef cc b
    by_cases d3:bef cc b=true
    ·rw [if_pos d3];exact Ev.pos (by rw [d3] at eb;exact of_decide_eq_true eb) (ih cc (.inr hc))
    ·rw [if_neg d3];exact Ev.neg (fun h=>d3 (by rw [← eb];exact decide_eq_true h)) (ih b (.inr hbo))
   ·rw [if_neg d2];exact Ev.neg d2 (ih b (.inr hbo))
theorem specBestOf_ev (sz:List Int) (fc:List (List Int)) (l:List Int) (hs:sz.length≤1048576) (hf:fc.length≤1048576) (hx:∀ x∈fc,x.length≤1048576) (hl:l.length≤1048576) :
  ∃ o:List Int × Int × Bool,Ev (fun k=>spec_BestOf.f k sz fc l) o∧Ev (fun k=>impl_BestOf.f k sz fc l) o∧o.1.length≤1048576:=by
 unfold spec_BestOf.f impl_BestOf.f
 have badS:Ev (fun k=>spec_BestOf.j0 k l true sz fc) ([],0,false):=Ev.succ (by simp only [spec_BestOf.j0];exact Ev.pos trivial (Ev.const rfl))
 have badI:Ev (fun k=>impl_BestOf.j0 k l true sz fc) ([],0,false):=Ev.succ (by simp only [impl_BestOf.j0];exact Ev.pos trivial (Ev.const rfl))
 by_cases g:GoodS sz fc
 case neg=>exact ⟨([],0,false),Ev.bind (specGood_ev sz fc hs hf hx) (Ev.neg (by rw [tell_no g];simp) badS),Ev.bind (implGood_ev sz fc hs hf) (Ev.neg (by rw [tell_no g];simp) badI),by simp⟩
 have n6:=g.n6
 have areSome:Ev (fun k=>impl_Stats_areSome.f k sz fc l) (decide (0 < l.length) && tell (ris l (sz.length:Int))):=by
  unfold impl_Stats_areSome.f impl_isPart.f
  by_cases c:0 < l.length
  ·refine Ev.bind (a:=tell (ris l (sz.length:Int))) (Ev.pos (by omega) (Ev.bind (areRising_ev l _ (by omega)) (Ev.const rfl))) (Ev.const ?_)
   simp [c]
  ·refine Ev.bind (a:=false) (Ev.neg (by omega) (Ev.const rfl)) (Ev.const ?_)
   simp [c]
 by_cases r:ris l (sz.length:Int)
 case neg =>
  rw [tell_no r,Bool.and_false] at areSome
  exact ⟨([],0,false),Ev.bind (specGood_ev sz fc hs hf hx) (Ev.pos (tell_yes g) (Ev.bind (l1Some_ev l _ (by omega)) (Ev.neg (by rw [tell_no r];simp) badS))),Ev.bind (implGood_ev sz fc hs hf) (Ev.pos (tell_yes g) (Ev.bind areSome badI)),by simp⟩
 rw [tell_yes r,Bool.and_true] at areSome
 by_cases e:l.length=0
 ·rw [show decide (0 < l.length)=false from decide_eq_false (by omega)] at areSome
  refine ⟨([],0,false),Ev.bind (specGood_ev sz fc hs hf hx) (Ev.pos (tell_yes g) (Ev.bind (l1Some_ev l _ (by omega)) (Ev.pos (tell_yes r) ?_))),Ev.bind (implGood_ev sz fc hs hf) (Ev.pos (tell_yes g) (Ev.bind areSome badI)),by simp⟩
  rw [show ((l.length:Int) == 0)=true from beq_iff_eq.mpr (by omega)]
  exact badS
 rw [show decide (0 < l.length)=true from decide_eq_true (by omega)] at areSome
 obtain ⟨i1,i2⟩:=setI_ok r (by omega)
 have hsrt:Srt sz (setL (setI l)):=by
  refine ⟨setL_pw _,fun x hx=>?_⟩
  rw [i2] at hx
  exact ris_mem r x hx
 have hsb:=specBest_ev g 6 (setI l) i1 hsrt (by rw [i2];omega) (setL_len _)
 have hib:=implBest_ev g 6 (setI l) i1 hsrt (by rw [i2];omega) (setL_len _)
 have hob:=bst_ok sz fc 6 (setI l) i1 (by rw [i2];omega) (setL_len _)
 have h6:=setL_len (setI l)
 have hol:=hob.len
 rw [i2] at hsb
 refine ⟨(bst sz fc 6 (setI l),cost sz fc (bst sz fc 6 (setI l)),true),Ev.bind (specGood_ev sz fc hs hf hx) (Ev.pos (tell_yes g) (Ev.bind (l1Some_ev l _ (by omega)) (Ev.pos (tell_yes r) ?_))),Ev.bind (implGood_ev sz fc hs hf) (Ev.pos (tell_yes g) (Ev.bind areSome ?_)),by simp only [];omega⟩
 ·rw [show ((l.length:Int) == 0)=false from beq_eq_false_iff_ne.mpr (by omega)]
  refine Ev.succ ?_
  simp only [spec_BestOf.j0]
  exact Ev.neg (by simp) (Ev.bind hsb (Ev.bind (specCost_ev g (ok_range hsrt hob) (by omega)) (Ev.const rfl)))
 ·refine Ev.succ ?_
  simp only [impl_BestOf.j0]
  exact Ev.neg (by simp) (Ev.bind (setOf_ev l (by omega) (fun x hx=>(ris_mem r x hx).1)) (Ev.bind hib (Ev.const rfl)))
/-! ### the best order of all tables -/
def upTo (n:Nat):List Int:=(List.range n).map fun (k:Nat)=>(k:Int)
theorem specAll_ev (sz:List Int) (fc:List (List Int)) (o:List Int × Int × Bool) (hs:sz.length≤1048576) (h:Ev (fun k=>spec_BestOf.f k sz fc (upTo sz.length)) o) :
  Ev (fun k=>spec_BestOrder.l0 k [] (sz.length:Int) 0 sz fc) o:=by
 have loop:=loop_up (n:=sz.length) (P:=fun i=>Ev (fun k=>spec_BestOrder.l0 k (upTo i) (sz.length:Int) (i:Int) sz fc) o) ?_ ?_
 ·exact loop 0 (Nat.zero_le _)
 ·refine Ev.succ ?_
  simp only [spec_BestOrder.l0]
  exact Ev.neg (by omega) (Ev.bind h (Ev.const rfl))
 ·intro i hi ih
  refine Ev.succ ?_
  simp only [spec_BestOrder.l0]
  rw [wrap_add (by omega) (by omega)]
  refine Ev.pos (by omega) (Ev.pos (by simp [upTo];omega) ?_)
  rw [show upTo i++[(i:Int)]=upTo (i + 1) from by simp [upTo,List.range_succ]]
  exact ih
theorem whole_ok {n:Nat} (hn:n≤6):impl_whole.f (n:Int)=some (wrap64 ((shl .i64 1 (n:Int)) - 1))∧isSet (wrap64 ((shl .i64 1 (n:Int)) - 1))∧setL (wrap64 ((shl .i64 1 (n:Int)) - 1))=upTo n:=by
 refine ⟨by unfold impl_whole.f;rw [if_pos (by omega)],?_⟩
 have key:∀ n:Fin 7,(0≤wrap64 ((shl .i64 1 (n.val:Int)) - 1)∧wrap64 ((shl .i64 1 (n.val:Int)) - 1) < 64)∧setL (wrap64 ((shl .i64 1 (n.val:Int)) - 1))=upTo n.val:=by decide +kernel
 exact key ⟨n,by omega⟩
theorem bestOrder_ev (sz:List Int) (fc:List (List Int)) (hs:sz.length≤1048576) (hf:fc.length≤1048576) (hx:∀ x∈fc,x.length≤1048576) :
  ∃ o:List Int × Int × Bool,Ev (fun k=>spec_BestOrder.f k sz fc) o∧Ev (fun k=>impl_BestOrder.f k sz fc) o∧o.1.length≤1048576:=by
 unfold spec_BestOrder.f impl_BestOrder.f
 by_cases g:GoodS sz fc
 case neg=>exact ⟨([],0,false),Ev.bind (specGood_ev sz fc hs hf hx) (Ev.neg (by rw [tell_no g];simp) (Ev.const rfl)),Ev.bind (implGood_ev sz fc hs hf) (Ev.neg (by rw [tell_no g];simp) (Ev.const rfl)),by simp⟩
 have n6:=g.n6
 obtain ⟨o,e1,e2,e3⟩:=specBestOf_ev sz fc (upTo sz.length) hs hf hx (by simp [upTo];omega)
 obtain ⟨w1,w2,w3⟩:=whole_ok n6
 refine ⟨o,Ev.bind (specGood_ev sz fc hs hf hx) (Ev.pos (tell_yes g) (specAll_ev sz fc o hs e1)),Ev.bind (implGood_ev sz fc hs hf) (Ev.pos (tell_yes g) (Ev.bind (Ev.const w1) (Ev.bind (setL_ev _ w2.1 w2.2) (Ev.bind (a:=o) ?_ (Ev.const rfl))))),e3⟩
 rw [w3]
 exact e2
theorem FnExactBestOrder : laws_FnExactBestOrder.Pure:=by
 intro sz fc _ _ hz
 obtain ⟨h0,h1,h2⟩:=szS_le hz
 obtain ⟨r,e1,e2,e3⟩:=bestOrder_ev sz fc h0 h1 h2
 obtain ⟨K1,k1⟩:=e1
 obtain ⟨K2,k2⟩:=e2
 exact ⟨K1 + K2,r,k1 _ (by omega),k2 _ (by omega),e3⟩
end Go.Proofs.Ytecebaeifmddnaa.Pure
