/- What FnOrdered's law comes to, in numbers and lists alone: it is true at whatever is drawn. -/
import Derived.Test.YtecebaeifmddnaaPFnOrderedx8
import Derived.Test.YtecebaeifmddnaaEv
namespace Go.Proofs.Ytecebaeifmddnaa.Pure
open Go.RowKit Go.Proofs.Ytecebaeifmddnaa.PFnOrdered Go.Proofs.YtecebaeifmddnaaW.PrintWords Go.Proofs.YtecebaeifmddnaaW.PrintLast Go.Proofs.YtecebaeifmddnaaW.PrintMore
set_option linter.unusedVariables false
set_option linter.unusedSimpArgs false

/-- The numbers of a set, rising. -/
def setL (s:Int):List Int:=((List.range 6).filter (fun k=>s.toNat.testBit k)).map (fun (k:Nat)=>(k:Int))
theorem setL_mem {s x:Int} (h:x∈setL s):0≤x∧x≤5:=by
 simp only [setL,List.mem_map,List.mem_filter,List.mem_range] at h
 obtain ⟨k,⟨hk,_⟩,rfl⟩:=h
 omega
theorem setL_some (s:Int) (h0:0≤s) (h1:s < 64):impl_set_list.f 8 s=some (setL s):=by
 have key:∀ n:Fin 64,impl_set_list.f 8 (n.val:Int)=some (setL (n.val:Int)):=by decide +kernel
 have:=key ⟨s.toNat,by omega⟩
 simpa [Int.toNat_of_nonneg h0] using this
theorem setL_ev (s:Int) (h0:0≤s) (h1:s < 64):Ev (fun k=>impl_set_list.f k s) (setL s):=Ev.of (fun k=>impl_set_list.mono s k) (setL_some s h0 h1)
/-- A number put to its place, once. -/
def putL (l:List Int) (n:Int):List Int:=if l.contains n then l else l.take (l.takeWhile (fun x=>decide (x < n))).length++n :: l.drop (l.takeWhile (fun x=>decide (x < n))).length
def orB (s n:Int):Int:=Go.bits .or .i64 s (shl .i64 1 n)
def isSet (s:Int):Prop:=0≤s∧s < 64
theorem fin_set {s:Int} (h:isSet s):∃ m:Fin 64,s=(m.val:Int):=⟨⟨s.toNat,by have:=h.1;have:=h.2;omega⟩,by have:=h.1;simp;omega⟩
theorem fin_num {n:Int} (h0:0≤n) (h5:n≤5):∃ m:Fin 6,n=(m.val:Int):=⟨⟨n.toNat,by omega⟩,by simp;omega⟩
theorem orB_ok {s n:Int} (h:isSet s) (h0:0≤n) (h5:n≤5):isSet (orB s n)∧setL (orB s n)=putL (setL s) n:=by
 obtain ⟨a,rfl⟩:=fin_set h
 obtain ⟨b,rfl⟩:=fin_num h0 h5
 have key:∀ a:Fin 64,∀ b:Fin 6,(0≤orB (a.val:Int) (b.val:Int)∧orB (a.val:Int) (b.val:Int) < 64)∧setL (orB (a.val:Int) (b.val:Int))=putL (setL (a.val:Int)) (b.val:Int):=by decide +kernel
 exact key a b
theorem setL_nil {s:Int} (h:isSet s):s=0↔setL s=[]:=by
 obtain ⟨a,rfl⟩:=fin_set h
 have key:∀ a:Fin 64,(a.val:Int)=0↔setL (a.val:Int)=[]:=by decide +kernel
 exact key a
theorem setL_len (s:Int):(setL s).length≤6:=by
 unfold setL
 rw [List.length_map]
 exact Nat.le_trans (List.length_filter_le _ _) (by simp)
theorem putL_len (l:List Int) (n:Int):(putL l n).length≤l.length + 1:=by
 unfold putL
 split
 ·omega
 ·simp;omega

def hasB (a b:Int):Bool:=Go.bits .and .i64 a b == b
def orS (a b:Int):Int:=Go.bits .or .i64 a b
theorem mem_setL {m:Fin 64} {x:Int}:x∈setL (m.val:Int)↔∃ k:Fin 6,x=(k.val:Int)∧m.val.testBit k.val=true:=by
 simp only [setL,List.mem_map,List.mem_filter,List.mem_range,Int.toNat_natCast]
 constructor
 ·rintro ⟨k,⟨hk,hb⟩,rfl⟩;exact ⟨⟨k,hk⟩,rfl,hb⟩
 ·rintro ⟨k,rfl,hb⟩;exact ⟨k.val,⟨k.isLt,hb⟩,rfl⟩
theorem orS_set {a b:Int} (ha:isSet a) (hb:isSet b):isSet (orS a b):=by
 obtain ⟨a,rfl⟩:=fin_set ha
 obtain ⟨b,rfl⟩:=fin_set hb
 have key:∀ a b:Fin 64,0≤orS (a.val:Int) (b.val:Int)∧orS (a.val:Int) (b.val:Int) < 64:=by decide +kernel
 exact key a b
theorem hasB_iff {a b:Int} (ha:isSet a) (hb:isSet b):hasB a b=(setL b).all (fun x=>(setL a).contains x):=by
 obtain ⟨a,rfl⟩:=fin_set ha
 obtain ⟨b,rfl⟩:=fin_set hb
 have key:∀ a b:Fin 64,hasB (a.val:Int) (b.val:Int)=(setL (b.val:Int)).all (fun x=>(setL (a.val:Int)).contains x):=by decide +kernel
 exact key a b
theorem orS_fold {a b:Int} (ha:isSet a) (hb:isSet b):setL (orS a b)=(setL b).foldl putL (setL a):=by
 obtain ⟨a,rfl⟩:=fin_set ha
 obtain ⟨b,rfl⟩:=fin_set hb
 have key:∀ a b:Fin 64,setL (orS (a.val:Int) (b.val:Int))=(setL (b.val:Int)).foldl putL (setL (a.val:Int)):=by decide +kernel
 exact key a b
theorem orS_len {a b:Int} (ha:isSet a) (hb:isSet b):(setL a).length≤(setL (orS a b)).length∧((setL a).length=(setL (orS a b)).length↔orS a b=a):=by
 obtain ⟨a,rfl⟩:=fin_set ha
 obtain ⟨b,rfl⟩:=fin_set hb
 have key:∀ a b:Fin 64,(setL (a.val:Int)).length≤(setL (orS (a.val:Int) (b.val:Int))).length∧((setL (a.val:Int)).length=(setL (orS (a.val:Int) (b.val:Int))).length↔orS (a.val:Int) (b.val:Int)=(a.val:Int)):=by decide +kernel
 exact key a b
theorem setL_inj {a b:Int} (ha:isSet a) (hb:isSet b) (h:setL a=setL b):a=b:=by
 obtain ⟨a,rfl⟩:=fin_set ha
 obtain ⟨b,rfl⟩:=fin_set hb
 have key:∀ a b:Fin 64,setL (a.val:Int)=setL (b.val:Int)→(a.val:Int)=(b.val:Int):=by decide +kernel
 exact key a b h
/-- The set of a list. -/
def setI (l:List Int):Int:=l.foldl orB 0
theorem orB_foldl : ∀ (l:List Int) (s:Int),isSet s→(∀ x∈l,0≤x∧x≤5)→isSet (l.foldl orB s)∧setL (l.foldl orB s)=l.foldl putL (setL s)
 | [],s,hs,_=>⟨hs,rfl⟩
 | n :: l,s,hs,h=>by
  obtain ⟨h0,h5⟩:=h n List.mem_cons_self
  obtain ⟨k1,k2⟩:=orB_ok hs h0 h5
  obtain ⟨j1,j2⟩:=orB_foldl l (orB s n) k1 (fun x hx=>h x (List.mem_cons_of_mem _ hx))
  exact ⟨j1,by rw [List.foldl_cons,j2,k2];rfl⟩
/-- Rising numbers of so many. -/
def ris (l:List Int) (c:Int):Prop:=∀ i,(hi:i < l.length)→0≤l[i]∧l[i] < c∧(0 < i→l[i - 1]'(by omega) < l[i])
theorem ris_tail {a:Int} {l:List Int} {c:Int} (h:ris (a :: l) c):ris l c:=by
 intro i hi
 have:=h (i + 1) (by simp;omega)
 simp only [List.getElem_cons_succ,Nat.add_sub_cancel] at this
 refine ⟨this.1,this.2.1,fun hp=>?_⟩
 have h3:=this.2.2 (by omega)
 obtain ⟨j,rfl⟩:∃ j,i=j + 1:=⟨i - 1,by omega⟩
 simpa using h3
theorem ris_mem {l:List Int} {c:Int} (h:ris l c):∀ x∈l,0≤x∧x < c:=by
 intro x hx
 obtain ⟨i,hi,rfl⟩:=List.getElem_of_mem hx
 exact ⟨(h i hi).1,(h i hi).2.1⟩
theorem ris_lt : ∀ {l:List Int} {a c:Int},ris (a :: l) c→∀ x∈l,a < x
 | [],_,_,_=>fun x hx=>by cases hx
 | b :: l,a,c,h=>by
  have hab:a < b:=by have:=(h 1 (by simp)).2.2 (by omega);simpa using this
  intro x hx
  rcases List.mem_cons.1 hx with rfl | hx
  ·exact hab
  ·exact Int.lt_trans hab (ris_lt (ris_tail h) x hx)
theorem ris_zero {c:Int} (h:c≤0) {l:List Int} (hl:ris l c):l=[]:=by
 cases l with
 | nil=>rfl
 | cons a l=>have:=hl 0 (by simp);simp at this;omega
/-- Numbers put to their places behind those that are less: at the end. -/
theorem putL_end (p:List Int) (n:Int) (h:∀ x∈p,x < n):putL p n=p++[n]:=by
 have hc:p.contains n=false:=by
  rw [Bool.eq_false_iff]
  intro hn
  have:=h n (by simpa using hn)
  omega
 have ht:p.takeWhile (fun x=>decide (x < n))=p:=by
  clear hc
  induction p with
  | nil=>rfl
  | cons a p ih=>rw [List.takeWhile_cons,if_pos (by simpa using h a List.mem_cons_self),ih (fun x hx=>h x (List.mem_cons_of_mem _ hx))]
 unfold putL
 rw [hc,ht,List.take_of_length_le (Nat.le_refl _),List.drop_of_length_le (Nat.le_refl _)]
 rfl
theorem foldl_putL : ∀ (l p:List Int) (c:Int),ris l c→(∀ x∈p,∀ y∈l,x < y)→l.foldl putL p=p++l
 | [],p,_,_,_=>by simp
 | n :: l,p,c,h,hp=>by
  rw [List.foldl_cons,putL_end p n (fun x hx=>hp x hx n List.mem_cons_self),foldl_putL l (p++[n]) c (ris_tail h) ?_,List.append_assoc]
  ·rfl
  ·intro x hx y hy
   rcases List.mem_append.1 hx with hx | hx
   ·exact hp x hx y (List.mem_cons_of_mem _ hy)
   ·obtain rfl:x=n:=by simpa using hx
    exact ris_lt h y hy
theorem setI_ok {l:List Int} {c:Int} (h:ris l c) (hc:c≤6):isSet (setI l)∧setL (setI l)=l:=by
 obtain ⟨k1,k2⟩:=orB_foldl l 0 ⟨by omega,by omega⟩ (fun x hx=>by have:=ris_mem h x hx;omega)
 refine ⟨k1,?_⟩
 unfold setI
 rw [k2,show setL 0=[] from by decide +kernel,foldl_putL l [] c h (fun x hx=>by cases hx)]
 rfl
theorem ris_len {l:List Int} {c:Int} (h:ris l c) (hc:c≤6):l.length≤6:=by
 rw [← (setI_ok h hc).2];exact setL_len _
def andS (a b:Int):Int:=Go.bits .and .i64 a b
def minusS (a b:Int):Int:=Go.bits .andNot .i64 a b
theorem andS_eq {a b:Int} (ha:isSet a) (hb:isSet b):isSet (andS a b)∧setL (andS a b)=(setL a).filter (fun x=>(setL b).contains x):=by
 obtain ⟨a,rfl⟩:=fin_set ha
 obtain ⟨b,rfl⟩:=fin_set hb
 have key:∀ a b:Fin 64,(0≤andS (a.val:Int) (b.val:Int)∧andS (a.val:Int) (b.val:Int) < 64)∧setL (andS (a.val:Int) (b.val:Int))=(setL (a.val:Int)).filter (fun x=>(setL (b.val:Int)).contains x):=by decide +kernel
 exact key a b
theorem minusS_eq {a b:Int} (ha:isSet a) (hb:isSet b):isSet (minusS a b)∧setL (minusS a b)=(setL a).filter (fun x=>!(setL b).contains x):=by
 obtain ⟨a,rfl⟩:=fin_set ha
 obtain ⟨b,rfl⟩:=fin_set hb
 have key:∀ a b:Fin 64,(0≤minusS (a.val:Int) (b.val:Int)∧minusS (a.val:Int) (b.val:Int) < 64)∧setL (minusS (a.val:Int) (b.val:Int))=(setL (a.val:Int)).filter (fun x=>!(setL (b.val:Int)).contains x):=by decide +kernel
 exact key a b
theorem mem_putL (l:List Int) (n x:Int):x∈putL l n↔x=n ∨ x∈l:=by
 unfold putL
 split
 ·rename_i h
  have h2:n∈l:=by simpa using h
  exact ⟨.inr,fun h3=>h3.elim (fun e=>e ▸ h2) id⟩
 ·generalize (l.takeWhile fun y=>decide (y < n)).length=m
  rw [List.mem_append,List.mem_cons]
  have e:x∈l↔x∈l.take m ∨ x∈l.drop m:=by rw [← List.mem_append,List.take_append_drop]
  rw [e]
  exact ⟨fun h=>h.elim (fun h=>.inr (.inl h)) (fun h=>h.elim .inl (fun h=>.inr (.inr h))),fun h=>h.elim (fun h=>.inr (.inl h)) (fun h=>h.elim .inl (fun h=>.inr (.inr h)))⟩
theorem mem_foldl_putL : ∀ (l p:List Int) (x:Int),x∈l.foldl putL p↔x∈p ∨ x∈l
 | [],p,x=>by simp
 | n :: l,p,x=>by
  rw [List.foldl_cons,mem_foldl_putL l,mem_putL,List.mem_cons]
  exact ⟨fun h=>h.elim (fun h=>h.elim (fun h=>.inr (.inl h)) .inl) (fun h=>.inr (.inr h)),fun h=>h.elim (fun h=>.inl (.inr h)) (fun h=>h.elim (fun h=>.inl (.inl h)) .inr)⟩
theorem mem_or {a b:Int} (ha:isSet a) (hb:isSet b) (x:Int):x∈setL (orS a b)↔x∈setL a ∨ x∈setL b:=by rw [orS_fold ha hb,mem_foldl_putL]
theorem mem_and {a b:Int} (ha:isSet a) (hb:isSet b) (x:Int):x∈setL (andS a b)↔x∈setL a∧x∈setL b:=by rw [(andS_eq ha hb).2,List.mem_filter];simp
theorem mem_minus {a b:Int} (ha:isSet a) (hb:isSet b) (x:Int):x∈setL (minusS a b)↔x∈setL a∧x ∉ setL b:=by rw [(minusS_eq ha hb).2,List.mem_filter];simp
theorem mem_has {a b:Int} (ha:isSet a) (hb:isSet b):hasB a b=true↔∀ x∈setL b,x∈setL a:=by rw [hasB_iff ha hb,List.all_eq_true];simp
theorem setL_pw (s:Int):(setL s).Pairwise (· < ·):=by
 unfold setL
 rw [List.pairwise_map]
 refine List.Pairwise.imp (fun h=>by omega) ((List.pairwise_lt_range (n:=6)).filter _)
theorem pw_eq : ∀ {a b:List Int},a.Pairwise (· < ·)→b.Pairwise (· < ·)→(∀ x,x∈a↔x∈b)→a=b
 | [],[],_,_,_=>rfl
 | [],y :: b,_,_,h=>absurd ((h y).2 List.mem_cons_self) (by simp)
 | x :: a,[],_,_,h=>absurd ((h x).1 List.mem_cons_self) (by simp)
 | x :: a,y :: b,ha,hb,h=>by
  obtain ⟨hx,ha2⟩:=List.pairwise_cons.1 ha
  obtain ⟨hy,hb2⟩:=List.pairwise_cons.1 hb
  have e:x=y:=by
   rcases List.mem_cons.1 ((h x).1 List.mem_cons_self) with e | m
   ·exact e
   ·rcases List.mem_cons.1 ((h y).2 List.mem_cons_self) with e | m2
    ·exact e.symm
    ·have:=hy x m;have:=hx y m2;omega
  subst e
  rw [pw_eq ha2 hb2 fun z=>?_]
  constructor
  ·intro hz
   rcases List.mem_cons.1 ((h z).1 (List.mem_cons_of_mem _ hz)) with e | m
   ·have:=hx z hz;omega
   ·exact m
  ·intro hz
   rcases List.mem_cons.1 ((h z).2 (List.mem_cons_of_mem _ hz)) with e | m
   ·have:=hy z hz;omega
   ·exact m
/-- A set has another one: it is as great just if it is the same. -/
theorem sub_len {a b:Int} (ha:isSet a) (hb:isSet b) (h:∀ x∈setL b,x∈setL a):(setL b).length≤(setL a).length∧((setL b).length=(setL a).length↔a=b):=by
 obtain ⟨a,rfl⟩:=fin_set ha
 obtain ⟨b,rfl⟩:=fin_set hb
 have key:∀ a b:Fin 64,(∀ x∈setL (b.val:Int),x∈setL (a.val:Int))→(setL (b.val:Int)).length≤(setL (a.val:Int)).length∧((setL (b.val:Int)).length=(setL (a.val:Int)).length↔(a.val:Int)=(b.val:Int)):=by decide +kernel
 exact key a b h
theorem l1Has_ev (l:List Int) (x:Int) (hl:l.length≤4194304):Ev (fun k=>spec_l1Has.f k l x) (l.contains x):=by
 have loop:=loop_up (n:=l.length) (P:=fun i=>Ev (fun k=>spec_l1Has.l0 k x l (l.length:Int) (i:Int)) ((l.drop i).contains x)) ?_ ?_
 ·unfold spec_l1Has.f
  exact loop 0 (Nat.zero_le _)
 ·refine Ev.succ ?_
  simp only [spec_l1Has.l0]
  exact Ev.neg (by omega) (Ev.const (by simp))
 ·intro i hi ih
  refine Ev.succ ?_
  simp only [spec_l1Has.l0]
  refine Ev.pos (by omega) (Ev.pos (by omega) (Ev.pos (by omega) ?_))
  rw [List.drop_eq_getElem_cons hi,List.contains_cons,rd_nat hi,wrap_add (by omega) (by omega)]
  by_cases h:l[i]=x
  ·exact Ev.pos h (Ev.const (by simp [h]))
  ·have h':(x == l[i])=false:=by simpa using fun e=>h e.symm
   rw [h',Bool.false_or]
   exact Ev.neg h ih
theorem takeWhile_at (p:Int→Bool):∀ (l:List Int) (i:Nat),i≤l.length→(∀ j,(h:j < l.length)→j < i→p l[j]=true)→(∀ h:i < l.length,p l[i]=false)→(l.takeWhile p).length=i
 | [],i,hi,_,_=>by simp at hi;simp [hi]
 | a :: l,0,_,_,h2=>by have:=h2 (by simp);simp at this;simp [List.takeWhile_cons,this]
 | a :: l,i + 1,hi,h1,h2=>by
  have h0:=h1 0 (by simp) (by omega)
  simp at h0
  rw [List.takeWhile_cons,h0]
  simp only [if_true,List.length_cons]
  rw [takeWhile_at p l i (by simpa using hi) (fun j h hj=>by have:=h1 (j + 1) (by simpa using h) (by omega);simpa using this) (fun h=>by have:=h2 (by simpa using h);simpa using this)]
theorem l7Put_ev (l:List Int) (n:Int) (hl:l.length≤1000):Ev (fun k=>spec_l7Put.f k l n) (putL l n):=by
 unfold spec_l7Put.f
 refine Ev.bind (l1Has_ev l n (by omega)) ?_
 by_cases hc:l.contains n=true
 ·rw [putL,if_pos hc]
  exact Ev.pos hc (Ev.const rfl)
 ·refine Ev.neg hc ?_
  rw [putL,if_neg hc]
  have done:∀ i:Nat,i≤l.length→(∀ j,(h:j < l.length)→j < i→decide (l[j] < n)=true)→(∀ h:i < l.length,decide (l[i] < n)=false)→l.take (l.takeWhile (fun x=>decide (x < n))).length++n :: l.drop (l.takeWhile (fun x=>decide (x < n))).length=([]++l.take (i:Int).toNat)++[n]++l.drop (i:Int).toNat:=by
   intro i hi h1 h2
   rw [takeWhile_at _ l i hi h1 h2];simp
  have loop:=loop_up (n:=l.length) (P:=fun i=>(∀ j,(h:j < l.length)→j < i→decide (l[j] < n)=true)→Ev (fun k=>spec_l7Put.l0 k l n (i:Int)) (l.take (l.takeWhile (fun x=>decide (x < n))).length++n :: l.drop (l.takeWhile (fun x=>decide (x < n))).length)) ?_ ?_
  ·exact loop 0 (Nat.zero_le _) (fun j _ h=>absurd h (Nat.not_lt_zero _))
  ·intro h1
   refine Ev.succ ?_
   rw [done l.length (Nat.le_refl _) h1 (fun h=>absurd h (Nat.lt_irrefl _))]
   simp only [spec_l7Put.l0,Option.bind_some]
   refine Ev.neg (by omega) (Ev.pos (by omega) (Ev.pos (by omega) (Ev.pos (by simp;omega) (Ev.pos (by simp;omega) (Ev.pos (by simp;omega) (Ev.const rfl))))))
  ·intro i hi ih h1
   refine Ev.succ ?_
   simp only [spec_l7Put.l0,Option.bind_some]
   refine Ev.pos (by omega) (Ev.pos (by omega) ?_)
   rw [rd_nat hi,wrap_add (by omega) (by omega)]
   by_cases h:l[i] < n
   ·refine Ev.pos h (ih (fun j hj hji=>?_))
    by_cases e:j=i
    ·subst e;simpa using h
    ·exact h1 j hj (by omega)
   ·refine Ev.neg h ?_
    rw [done i (by omega) h1 (fun _=>by simpa using h)]
    exact Ev.pos (by omega) (Ev.pos (by simp;omega) (Ev.pos (by simp;omega) (Ev.pos (by simp;omega) (Ev.const rfl))))
open Classical in
noncomputable def tell (p : Prop) : Bool := decide p
theorem tell_yes {p:Prop} (h:p):tell p=true:=by simp [tell,h]
theorem tell_no {p:Prop} (h:¬ p):tell p=false:=by simp [tell,h]
theorem tell_iff {p:Prop}:tell p=true↔p:=by simp [tell]
theorem setOf_ev (l:List Int) (hl:l.length≤4194304) (h:∀ x∈l,0≤x):Ev (fun k=>impl_setOf.f k l) (setI l):=by
 have loop:=loop_up (n:=l.length) (P:=fun i=>∀ s:Int,(l.drop i).foldl orB s=setI l→Ev (fun k=>impl_setOf.l0 k s l (l.length:Int) (i:Int)) (setI l)) ?_ ?_
 ·exact loop 0 (Nat.zero_le _) 0 rfl
 ·intro s hs
  refine Ev.succ ?_
  simp only [impl_setOf.l0]
  exact Ev.neg (by omega) (Ev.const (by rw [← hs];simp))
 ·intro i hi ih s hs
  refine Ev.succ ?_
  simp only [impl_setOf.l0]
  rw [rd_nat hi,wrap_add (by omega) (by omega)]
  refine Ev.pos (by omega) (Ev.pos (by omega) (Ev.pos (by omega) (Ev.pos (h _ (List.getElem_mem hi)) (ih _ ?_))))
  rw [← hs,List.drop_eq_getElem_cons hi];rfl
theorem l7Put_set (s n:Int) (hs:isSet s) (h0:0≤n) (h5:n≤5):Ev (fun k=>spec_l7Put.f k (setL s) n) (setL (orB s n)):=by
 rw [(orB_ok hs h0 h5).2]
 exact l7Put_ev (setL s) n (by have:=setL_len s;omega)
theorem l1Some_ev (l:List Int) (c:Int) (hl:l.length≤4194304):Ev (fun k=>spec_l1Some.f k l c) (tell (ris l c)):=by
 have loop:=loop_up (n:=l.length) (P:=fun i=>(∀ j,(hj:j < l.length)→j < i→0≤l[j]∧l[j] < c∧(0 < j→l[j - 1]'(by omega) < l[j]))→Ev (fun k=>spec_l1Some.l0 k l c l (l.length:Int) (i:Int)) (tell (ris l c))) ?_ ?_
 ·exact loop 0 (Nat.zero_le _) (fun j _ h=>absurd h (Nat.not_lt_zero _))
 ·intro g
  refine Ev.succ ?_
  simp only [spec_l1Some.l0]
  exact Ev.neg (by omega) (Ev.const (by rw [tell_yes (show ris l c from fun i hi=>g i hi hi)]))
 ·intro i hi ih g
  refine Ev.succ ?_
  simp only [spec_l1Some.l0]
  rw [rd_nat hi,wrap_add (by omega) (by omega)]
  refine Ev.pos (by omega) (Ev.pos (by omega) (Ev.pos (by omega) ?_))
  by_cases h1:l[i] < 0
  ·exact Ev.pos h1 (Ev.const (by rw [tell_no fun h=>by have:=(h i hi).1;omega]))
  refine Ev.neg h1 ?_
  by_cases h2:l[i] ≥ c
  ·exact Ev.pos h2 (Ev.const (by rw [tell_no fun h=>by have:=(h i hi).2.1;omega]))
  refine Ev.neg h2 ?_
  have next:(0 < i→l[i - 1]'(by omega) < l[i])→Ev (fun k=>spec_l1Some.l0 k l c l (l.length:Int) ((i:Int) + 1)) (tell (ris l c)):=fun hn=>ih fun j hj hji=>by
   by_cases e:j=i
   ·subst e;exact ⟨by omega,by omega,hn⟩
   ·exact g j hj (by omega)
  by_cases h3:0 < i
  ·refine Ev.pos (by omega) ?_
   rw [wrap_id (by omega) (by omega),show (i:Int) - 1=((i - 1:Nat):Int) by omega,rd_nat (show i - 1 < l.length by omega)]
   refine Ev.pos (by omega) (Ev.pos (by omega) ?_)
   by_cases h4:l[i - 1] ≥ l[i]
   ·exact Ev.pos h4 (Ev.const (by rw [tell_no fun h=>by have:=(h i hi).2.2 h3;omega]))
   ·exact Ev.neg h4 (next fun _=>by omega)
  ·exact Ev.neg (by omega) (next fun h=>absurd h h3)
theorem areRising_ev (l:List Int) (c:Int) (hl:l.length≤4194304):Ev (fun k=>impl_areRising.f k l c) (tell (ris l c)):=by
 have loop:=loop_up (n:=l.length) (P:=fun i=>(∀ j,(hj:j < l.length)→j < i→0≤l[j]∧l[j] < c∧(0 < j→l[j - 1]'(by omega) < l[j]))→Ev (fun k=>impl_areRising.l0 k l c l (l.length:Int) (i:Int)) (tell (ris l c))) ?_ ?_
 ·exact loop 0 (Nat.zero_le _) (fun j _ h=>absurd h (Nat.not_lt_zero _))
 ·intro g
  refine Ev.succ ?_
  simp only [impl_areRising.l0]
  exact Ev.neg (by omega) (Ev.const (by rw [tell_yes (show ris l c from fun i hi=>g i hi hi)]))
 ·intro i hi ih g
  refine Ev.succ ?_
  simp only [impl_areRising.l0,impl_isPlace.f]
  rw [rd_nat hi,wrap_add (by omega) (by omega)]
  refine Ev.pos (by omega) (Ev.pos (by omega) (Ev.pos (by omega) ?_))
  by_cases h1:l[i] ≥ 0
  case neg =>
   refine Ev.bind (a:=false) (Ev.const (if_neg h1)) (Ev.neg (by simp) (Ev.const ?_))
   rw [tell_no fun h=>by have:=(h i hi).1;omega]
  by_cases h2:l[i] < c
  case neg =>
   refine Ev.bind (a:=false) (Ev.const (by rw [if_pos h1,decide_eq_false h2])) (Ev.neg (by simp) (Ev.const ?_))
   rw [tell_no fun h=>by have:=(h i hi).2.1;omega]
  refine Ev.bind (a:=true) (Ev.const (by rw [if_pos h1,decide_eq_true h2])) (Ev.pos rfl ?_)
  have next:(0 < i→l[i - 1]'(by omega) < l[i])→Ev (fun k=>impl_areRising.l0 k l c l (l.length:Int) ((i:Int) + 1)) (tell (ris l c)):=fun hn=>ih fun j hj hji=>by
   by_cases e:j=i
   ·subst e;exact ⟨by omega,by omega,hn⟩
   ·exact g j hj (by omega)
  by_cases h3:0 < i
  ·refine Ev.pos (by omega) ?_
   rw [wrap_id (by omega) (by omega),show (i:Int) - 1=((i - 1:Nat):Int) by omega,rd_nat (show i - 1 < l.length by omega)]
   refine Ev.pos (by omega) (Ev.pos (by omega) ?_)
   by_cases h4:l[i]≤l[i - 1]
   ·exact Ev.pos h4 (Ev.const (by rw [tell_no fun h=>by have:=(h i hi).2.2 h3;omega]))
   ·exact Ev.neg h4 (next fun _=>by omega)
  ·exact Ev.neg (by omega) (next fun h=>absurd h h3)
def oth (l:List Int) (a:Int):List Int:=l.filter fun x=>!(x == a)
theorem oth_mem {l:List Int} {a x:Int} (h:x∈oth l a):x∈l:=(List.mem_filter.1 h).1
theorem oth_len (l:List Int) (a:Int):(oth l a).length≤l.length:=List.length_filter_le _ _
theorem without_ev (l:List Int) (a:Int) (hl:l.length≤1048576):Ev (fun k=>spec_l11Without.f k l a) (oth l a):=by
 have loop:=loop_up (n:=l.length) (P:=fun i=>Ev (fun k=>spec_l11Without.l0 k a (oth (l.take i) a) l (l.length:Int) (i:Int)) (oth l a)) ?_ ?_
 ·exact loop 0 (Nat.zero_le _)
 ·refine Ev.succ ?_
  simp only [spec_l11Without.l0]
  exact Ev.neg (by omega) (Ev.const (by rw [List.take_length]))
 ·intro i hi ih
  refine Ev.succ ?_
  simp only [spec_l11Without.l0]
  rw [rd_nat hi,wrap_add (by omega) (by omega)]
  refine Ev.pos (by omega) (Ev.pos (by omega) (Ev.pos (by omega) ?_))
  have htk:oth (l.take (i + 1)) a=oth (l.take i) a++(if l[i]=a then [] else [l[i]]):=by
   unfold oth
   rw [List.take_succ_eq_append_getElem hi,List.filter_append]
   congr 1
   by_cases c:l[i]=a
   ·simp [c]
   ·simp [c]
  rw [htk] at ih
  by_cases c:l[i]=a
  ·refine Ev.pos c ?_
   rw [if_pos c,List.append_nil] at ih
   exact ih
  ·refine Ev.neg c (Ev.pos ?_ ?_)
   ·have h1:=oth_len (l.take i) a
    have h2:(l.take i).length≤l.length:=by simp;omega
    omega
   ·rw [if_neg c] at ih
    exact ih
def bitS (k:Int):Int:=shl .i64 1 k
theorem bitS_ok {k:Int} (h0:0≤k) (h5:k≤5):isSet (bitS k)∧setL (bitS k)=[k]:=by
 have key:∀ m:Fin 6,(0≤bitS (m.val:Int)∧bitS (m.val:Int) < 64)∧setL (bitS (m.val:Int))=[(m.val:Int)]:=by decide +kernel
 obtain ⟨m,rfl⟩:=fin_num h0 h5
 exact key m
theorem minus_list {s k:Int} (hs:isSet s) (h0:0≤k) (h5:k≤5):isSet (minusS s (bitS k))∧setL (minusS s (bitS k))=(setL s).filter (fun x=>!(x == k)):=by
 obtain ⟨b1,b2⟩:=bitS_ok h0 h5
 obtain ⟨a,b⟩:=minusS_eq hs b1
 refine ⟨a,?_⟩
 rw [b,b2]
 congr 1
 funext x
 by_cases e:x=k
 ·subst e;simp
 ·have e2:¬ k=x:=fun h=>e h.symm
  simp [e]
/-! ### good statistics -/
structure GoodS (sz : List Int) (fc : List (List Int)) : Prop where
 n1:1≤sz.length
 n6:sz.length≤6
 len:fc.length=sz.length
 szs:∀ n∈sz,1≤n∧n≤50
 rows:∀ i,(hi:i < fc.length)→fc[i].length=i∧∀ f∈fc[i],1≤f∧f≤10
theorem l1In_some (a lo hi:Int):spec_l1In.f a lo hi=some (decide (lo≤a∧a≤hi)):=by
 unfold spec_l1In.f
 by_cases h:lo≤a
 ·rw [if_pos h];simp [h]
 ·rw [if_neg (by omega)];simp [h]
theorem within_some (a lo hi:Int):impl_within.f a lo hi=some (decide (lo≤a∧a≤hi)):=by
 unfold impl_within.f
 by_cases h:lo≤a
 ·rw [if_pos h];simp [h]
 ·rw [if_neg (by omega)];simp [h]
theorem rdLL_nat {l:List (List Int)} {i:Nat} (h:i < l.length):rd_L1 l (i:Int)=l[i]:=by simp [rd_L1,h]
theorem specGood_ev (sz:List Int) (fc:List (List Int)) (hs:sz.length≤1048576) (hf:fc.length≤1048576) (hx:∀ x∈fc,x.length≤1048576):Ev (fun k=>spec_GoodStats.f k sz fc) (tell (GoodS sz fc)):=by
 unfold spec_GoodStats.f
 rw [l1In_some]
 have bad:¬ GoodS sz fc→Ev (fun k=>spec_GoodStats.j0 k true sz fc) (tell (GoodS sz fc)):=fun h=>Ev.succ (by simp only [spec_GoodStats.j0];exact Ev.pos trivial (Ev.const (by rw [tell_no h])))
 by_cases h1:1≤(sz.length:Int)∧(sz.length:Int)≤6
 case neg =>
  refine Ev.bind (Ev.const rfl) (Ev.neg (by simpa using h1) (bad fun g=>?_))
  have:=g.n1;have:=g.n6;omega
 refine Ev.bind (Ev.const rfl) (Ev.pos (decide_eq_true h1) ?_)
 by_cases h2:fc.length=sz.length
 case neg =>
  rw [show ((fc.length:Int) != (sz.length:Int))=true from bne_iff_ne.mpr (by omega)]
  exact bad fun g=>h2 g.len
 rw [show ((fc.length:Int) != (sz.length:Int))=false from bne_eq_false_iff_eq.mpr (by omega)]
 refine Ev.succ ?_
 simp only [spec_GoodStats.j0]
 refine Ev.neg (by simp) ?_
 have loop:=loop_up (n:=sz.length) (P:=fun i=>(∀ j,(hj:j < sz.length)→j < i→(1≤sz[j]∧sz[j]≤50)∧(fc[j]'(by omega)).length=j∧∀ f∈fc[j]'(by omega),1≤f∧f≤10)→Ev (fun k=>spec_GoodStats.l0 k sz (sz.length:Int) (i:Int) sz fc) (tell (GoodS sz fc))) ?_ ?_
 ·exact loop 0 (Nat.zero_le _) (fun j _ h=>absurd h (Nat.not_lt_zero _))
 ·intro g
  refine Ev.succ ?_
  simp only [spec_GoodStats.l0]
  refine Ev.neg (by omega) (Ev.const ?_)
  rw [tell_yes]
  refine ⟨by omega,by omega,h2,fun n hn=>?_,fun i hi=>(g i (by omega) (by omega)).2⟩
  obtain ⟨j,hj,rfl⟩:=List.getElem_of_mem hn
  exact (g j hj hj).1
 ·intro i hi ih g
  have hi2:i < fc.length:=by omega
  refine Ev.succ ?_
  simp only [spec_GoodStats.l0]
  rw [rd_nat hi,rdLL_nat hi2,l1In_some]
  refine Ev.pos (by omega) (Ev.pos (by omega) (Ev.pos (by omega) ?_))
  by_cases h3:1≤sz[i]∧sz[i]≤50
  case neg =>
   refine Ev.bind (Ev.const rfl) (Ev.neg (by simpa using h3) (Ev.succ ?_))
   simp only [spec_GoodStats.j2]
   exact Ev.pos trivial (Ev.const (by rw [tell_no fun g=>h3 (g.szs _ (List.getElem_mem hi))]))
  refine Ev.bind (Ev.const rfl) (Ev.pos (decide_eq_true h3) (Ev.pos (by omega) ?_))
  by_cases h4:fc[i].length=i
  case neg =>
   rw [show ((fc[i].length:Int) != (i:Int))=true from bne_iff_ne.mpr (by omega)]
   refine Ev.succ ?_
   simp only [spec_GoodStats.j2]
   exact Ev.pos trivial (Ev.const (by rw [tell_no fun g=>h4 (g.rows i hi2).1]))
  rw [show ((fc[i].length:Int) != (i:Int))=false from bne_eq_false_iff_eq.mpr (by omega)]
  refine Ev.succ ?_
  simp only [spec_GoodStats.j2]
  rw [rdLL_nat hi2]
  refine Ev.neg (by simp) (Ev.pos (by omega) (Ev.pos (by omega) ?_))
  obtain ⟨y,hy⟩:∃ y,y=fc[i]:=⟨_,rfl⟩
  rw [← hy] at h4 ⊢
  have inner:=loop_up (n:=y.length) (P:=fun m=>(∀ q,(hq:q < y.length)→q < m→1≤y[q]∧y[q]≤10)→Ev (fun k=>spec_GoodStats.l1 k sz (sz.length:Int) (i:Int) y (y.length:Int) (m:Int) sz fc) (tell (GoodS sz fc))) ?_ ?_
  ·exact inner 0 (Nat.zero_le _) (fun j _ h=>absurd h (Nat.not_lt_zero _))
  ·intro gy
   refine Ev.succ ?_
   simp only [spec_GoodStats.l1]
   rw [wrap_add (a:=(i:Int)) (by omega) (by omega)]
   refine Ev.neg (by omega) (ih fun j hj hji=>?_)
   by_cases e:j=i
   ·subst e
    refine ⟨h3,by rw [← hy];exact h4,fun f hf2=>?_⟩
    rw [← hy] at hf2
    obtain ⟨q,hq,rfl⟩:=List.getElem_of_mem hf2
    exact gy q hq hq
   ·exact g j hj (by omega)
  ·intro m hm ihm gy
   refine Ev.succ ?_
   simp only [spec_GoodStats.l1]
   rw [rd_nat hm,wrap_add (a:=(m:Int)) (by omega) (by omega),l1In_some]
   refine Ev.pos (by omega) (Ev.pos (by omega) (Ev.pos (by omega) ?_))
   by_cases h5:1≤y[m]∧y[m]≤10
   case neg =>
    refine Ev.bind (Ev.const rfl) (Ev.neg (by simpa using h5) (Ev.const ?_))
    rw [tell_no fun g=>h5 ((g.rows i hi2).2 _ (by rw [← hy];exact List.getElem_mem hm))]
   refine Ev.bind (Ev.const rfl) (Ev.pos (decide_eq_true h5) (ihm fun q hq hqm=>?_))
   by_cases e:q=m
   ·subst e;exact h5
   ·exact gy q hq (by omega)
theorem all1_some (l:List Int):areAll_impl_GoodStats_1.f l=some (l.all fun d=>decide (1≤d∧d≤50)):=by
 have e:∀ d,impl_GoodStats_1.f d=some (decide (1≤d∧d≤50)):=fun d=>by unfold impl_GoodStats_1.f;rw [within_some];rfl
 unfold areAll_impl_GoodStats_1.f
 simp only [e,Option.isSome_some,Option.getD_some]
 rw [if_pos (by simp)]
theorem all2_some (l:List Int):areAll_impl_GoodStats_2.f l=some (l.all fun d=>decide (1≤d∧d≤10)):=by
 have e:∀ d,impl_GoodStats_2.f d=some (decide (1≤d∧d≤10)):=fun d=>by unfold impl_GoodStats_2.f;rw [within_some];rfl
 unfold areAll_impl_GoodStats_2.f
 simp only [e,Option.isSome_some,Option.getD_some]
 rw [if_pos (by simp)]
theorem implGood_ev (sz:List Int) (fc:List (List Int)) (hs:sz.length≤1048576) (hf:fc.length≤1048576):Ev (fun k=>impl_GoodStats.f k sz fc) (tell (GoodS sz fc)):=by
 unfold impl_GoodStats.f
 rw [within_some,all1_some]
 have bad:¬ GoodS sz fc→Ev (fun k=>impl_GoodStats.j0 k true sz fc) (tell (GoodS sz fc)):=fun h=>Ev.succ (by simp only [impl_GoodStats.j0];exact Ev.pos trivial (Ev.const (by rw [tell_no h])))
 by_cases h1:1≤(sz.length:Int)∧(sz.length:Int)≤6
 case neg =>
  refine Ev.bind (Ev.const rfl) (Ev.neg (by simpa using h1) (bad fun g=>?_))
  have:=g.n1;have:=g.n6;omega
 refine Ev.bind (Ev.const rfl) (Ev.pos (decide_eq_true h1) ?_)
 by_cases h2:fc.length=sz.length
 case neg=>exact Ev.neg (by omega) (bad fun g=>h2 g.len)
 refine Ev.pos (by omega) (Ev.bind (Ev.const rfl) ?_)
 cases h3:sz.all (fun d=>decide (1≤d∧d≤50)) with
 | false =>
  refine bad fun g=>?_
  have:sz.all (fun d=>decide (1≤d∧d≤50))=true:=List.all_eq_true.2 fun x hx=>decide_eq_true (g.szs x hx)
  rw [h3] at this;cases this
 | true =>
  refine Ev.succ ?_
  simp only [impl_GoodStats.j0]
  refine Ev.neg (by simp) ?_
  have loop:=loop_up (n:=fc.length) (P:=fun i=>(∀ j,(hj:j < fc.length)→j < i→fc[j].length=j∧∀ f∈fc[j],1≤f∧f≤10)→Ev (fun k=>impl_GoodStats.l0 k fc (fc.length:Int) (i:Int)) (tell (GoodS sz fc))) ?_ ?_
  ·exact loop 0 (Nat.zero_le _) (fun j _ h=>absurd h (Nat.not_lt_zero _))
  ·intro g
   refine Ev.succ ?_
   simp only [impl_GoodStats.l0]
   refine Ev.neg (by omega) (Ev.const ?_)
   rw [tell_yes]
   exact ⟨by omega,by omega,h2,fun n hn=>of_decide_eq_true (List.all_eq_true.1 h3 n hn),fun i hi=>g i hi hi⟩
  ·intro i hi ih g
   refine Ev.succ ?_
   simp only [impl_GoodStats.l0]
   rw [rdLL_nat hi,wrap_add (by omega) (by omega),all2_some]
   refine Ev.pos (by omega) (Ev.pos (by omega) (Ev.pos (by omega) ?_))
   by_cases h4:fc[i].length=i
   case neg=>exact Ev.neg (by omega) (Ev.const (by rw [tell_no fun g=>h4 (g.rows i hi).1]))
   refine Ev.pos (by omega) (Ev.bind (Ev.const rfl) ?_)
   cases h5:fc[i].all (fun d=>decide (1≤d∧d≤10)) with
   | false =>
    refine Ev.neg (by simp) (Ev.const ?_)
    rw [tell_no fun g=>?_]
    have:fc[i].all (fun d=>decide (1≤d∧d≤10))=true:=List.all_eq_true.2 fun x hx=>decide_eq_true ((g.rows i hi).2 x hx)
    rw [h5] at this;cases this
   | true =>
    refine Ev.pos rfl (ih fun j hj hji=>?_)
    by_cases e:j=i
    ·subst e;exact ⟨h4,fun f hf2=>of_decide_eq_true (List.all_eq_true.1 h5 f hf2)⟩
    ·exact g j hj (by omega)
/-! ### how great a join is, and what an order costs -/
/-- What is multiplied up to a place: sizes, and factors of pairs. -/
def st (sz:List Int) (fc:List (List Int)) (l:List Int):Nat→Int × Int
 | 0=>(1,1)
 | i + 1=>(wrap64 ((st sz fc l i).1 * rd sz (rd l i)),(l.take i).foldl (fun d o=>wrap64 (d * rd (rd_L1 fc (rd l i)) o)) (st sz fc l i).2)
def sizeV (sz:List Int) (fc:List (List Int)) (l:List Int):Int:=wrap64 (Int.tdiv (st sz fc l l.length).1 (st sz fc l l.length).2)
/-- Sorted numbers of tables. -/
structure Srt (sz : List Int) (l : List Int) : Prop where
 pw:l.Pairwise (· < ·)
 mem:∀ x∈l,0≤x∧x < (sz.length:Int)
theorem pw_idx {l:List Int} (h:l.Pairwise (· < ·)) {i j:Nat} (hi:i < l.length) (hj:j < l.length) (hij:i < j):l[i] < l[j]:=List.pairwise_iff_getElem.1 h i j hi hj hij
theorem rd_fac {sz:List Int} {fc:List (List Int)} (g:GoodS sz fc) {a o:Int} (ha:0≤a∧a < (sz.length:Int)) (ho:0≤o) (hlt:o < a):a < (fc.length:Int)∧o < ((rd_L1 fc a).length:Int)∧1≤rd (rd_L1 fc a) o∧rd (rd_L1 fc a) o≤10:=by
 obtain ⟨m,rfl⟩:∃ m:Nat,a=(m:Int):=⟨a.toNat,by omega⟩
 obtain ⟨q,rfl⟩:∃ q:Nat,o=(q:Int):=⟨o.toNat,by omega⟩
 have hm:m < fc.length:=by have:=g.len;omega
 obtain ⟨r1,r2⟩:=g.rows m hm
 rw [rdLL_nat hm,rd_nat (show q < fc[m].length by omega)]
 have:=r2 _ (List.getElem_mem (show q < fc[m].length by omega))
 exact ⟨by omega,by omega,this.1,this.2⟩
def bd : Nat→Int
 | 0=>1
 | 1=>1
 | 2=>10
 | 3=>1000
 | 4=>1000000
 | 5=>10000000000
 | _=>1000000000000000
theorem mul_le {d D f:Int} (d1:1≤d) (d2:d≤D) (f1:1≤f) (f2:f≤10) (hD:D * 10≤1000000000000000):wrap64 (d * f)=d * f∧1≤d * f∧d * f≤D * 10:=by
 have h1:d * f≤d * 10:=Int.mul_le_mul_of_nonneg_left f2 (by omega)
 have h2:d * 1≤d * f:=Int.mul_le_mul_of_nonneg_left f1 (by omega)
 have h3:d * f≤D * 10:=by omega
 exact ⟨by unfold wrap64;omega,by omega,h3⟩
theorem ten_pos : ∀ n:Nat,(1:Int)≤10 ^ n
 | 0=>by simp
 | n + 1=>by rw [Int.pow_succ];have:=ten_pos n;omega
theorem fold_le {fr:List Int}:∀ (m:List Int) (d D:Int) ,(∀ o∈m,1≤rd fr o∧rd fr o≤10)→1≤d→d≤D→D * 10 ^ m.length≤1000000000000000→1≤D →
  1≤m.foldl (fun d o=>wrap64 (d * rd fr o)) d∧m.foldl (fun d o=>wrap64 (d * rd fr o)) d≤D * 10 ^ m.length
 | [],d,D,_,h1,h2,_,_=>⟨h1,by simpa using h2⟩
 | o :: m,d,D,hm,h1,h2,h3,hD=>by
  have e:D * 10 ^ (o :: m).length=D * 10 * 10 ^ m.length:=by rw [List.length_cons,Int.pow_succ,Int.mul_comm (10 ^ m.length) 10,Int.mul_assoc]
  rw [e] at h3 ⊢
  have p1:(1:Int)≤10 ^ m.length:=ten_pos m.length
  have p2:D * 10 * 1≤D * 10 * 10 ^ m.length:=Int.mul_le_mul_of_nonneg_left p1 (by omega)
  obtain ⟨f1,f2⟩:=hm o List.mem_cons_self
  obtain ⟨w,w1,w2⟩:=mul_le h1 h2 f1 f2 (by omega)
  rw [List.foldl_cons,w]
  exact fold_le m _ _ (fun x hx=>hm x (List.mem_cons_of_mem _ hx)) w1 w2 h3 (by omega)
theorem st_le {sz:List Int} {fc:List (List Int)} (g:GoodS sz fc) {l:List Int} (hl:Srt sz l) (h6:l.length≤6):∀ i,i≤l.length→1≤(st sz fc l i).2∧(st sz fc l i).2≤bd i
 | 0,_=>by simp [st,bd]
 | i + 1,hi=>by
  obtain ⟨a,b⟩:=st_le g hl h6 i (by omega)
  have hil:i < l.length:=by omega
  have hln:(l.take i).length=i:=by simp;omega
  have hm:∀ o∈l.take i,1≤rd (rd_L1 fc l[i]) o∧rd (rd_L1 fc l[i]) o≤10:=by
   intro o ho
   obtain ⟨j,hj,rfl⟩:=List.getElem_of_mem ho
   have hj2:j < i:=by omega
   rw [List.getElem_take]
   have:=rd_fac g (hl.mem _ (List.getElem_mem hil)) (hl.mem _ (List.getElem_mem (show j < l.length by omega))).1 (pw_idx hl.pw (by omega) hil hj2)
   exact this.2.2
  have key:1≤bd i∧bd i * 10 ^ i≤bd (i + 1)∧bd (i + 1)≤1000000000000000:=by
   rcases (show i=0 ∨ i=1 ∨ i=2 ∨ i=3 ∨ i=4 ∨ i=5 by omega) with rfl | rfl | rfl | rfl | rfl | rfl <;> decide
  have:=fold_le (fr:=rd_L1 fc l[i]) (l.take i) _ (bd i) hm a b (by rw [hln];omega) key.1
  rw [hln] at this
  simp only [st]
  rw [rd_nat hil]
  exact ⟨this.1,by omega⟩
theorem foldl_step {fr:List Int} {l:List Int} {i j:Nat} (hj:j < l.length) (hji:j < i) (d:Int):(l.take (j + 1)).foldl (fun d o=>wrap64 (d * rd fr o)) d=wrap64 ((l.take j).foldl (fun d o=>wrap64 (d * rd fr o)) d * rd fr l[j]):=by
 rw [List.take_succ_eq_append_getElem hj,List.foldl_append];rfl
theorem specSize_ev {sz:List Int} {fc:List (List Int)} (g:GoodS sz fc) {l:List Int} (hl:Srt sz l) (h6:l.length≤6):Ev (fun k=>spec_l12Size.f k sz fc l) (sizeV sz fc l):=by
 have loop:=loop_up (n:=l.length) (P:=fun i=>Ev (fun k=>spec_l12Size.l0 k l (st sz fc l i).1 (st sz fc l i).2 l (l.length:Int) (i:Int) sz fc) (sizeV sz fc l)) ?_ ?_
 ·unfold spec_l12Size.f
  exact loop 0 (Nat.zero_le _)
 ·refine Ev.succ ?_
  simp only [spec_l12Size.l0]
  have:=(st_le g hl h6 l.length (Nat.le_refl _)).1
  exact Ev.neg (by omega) (Ev.neg (by omega) (Ev.const rfl))
 ·intro i hi ih
  have hm:=hl.mem _ (List.getElem_mem hi)
  refine Ev.succ ?_
  simp only [spec_l12Size.l0]
  rw [rd_nat hi,Int.toNat_natCast]
  refine Ev.pos (by omega) (Ev.pos (by omega) (Ev.pos (by omega) (Ev.pos (by omega) (Ev.pos (by omega) (Ev.pos (by omega) ?_)))))
  obtain ⟨y,hy⟩:∃ y,y=l.take i:=⟨_,rfl⟩
  have hyl:y.length=i:=by rw [hy];simp;omega
  rw [← hy]
  have inner:=loop_up (n:=y.length) (P:=fun m=>Ev (fun k=>spec_l12Size.l1 k l (wrap64 ((st sz fc l i).1 * rd sz l[i])) ((y.take m).foldl (fun d o=>wrap64 (d * rd (rd_L1 fc l[i]) o)) (st sz fc l i).2) l[i] l (l.length:Int) (i:Int) y (y.length:Int) (m:Int) sz fc) (sizeV sz fc l)) ?_ ?_
  ·exact inner 0 (Nat.zero_le _)
  ·refine Ev.succ ?_
   simp only [spec_l12Size.l1]
   rw [wrap_add (a:=(i:Int)) (by omega) (by omega),List.take_length]
   refine Ev.neg (by omega) ?_
   have e:st sz fc l (i + 1)=(wrap64 ((st sz fc l i).1 * rd sz l[i]),y.foldl (fun d o=>wrap64 (d * rd (rd_L1 fc l[i]) o)) (st sz fc l i).2):=by simp only [st];rw [rd_nat hi,hy]
   rw [e] at ih
   exact ih
  ·intro m hmm ihm
   have hml:m < l.length:=by omega
   have hym:y[m]=l[m]:=by simp only [hy,List.getElem_take]
   have hmo:=hl.mem _ (List.getElem_mem hml)
   obtain ⟨f1,f2,_,_⟩:=rd_fac g hm hmo.1 (pw_idx hl.pw hml hi (by omega))
   refine Ev.succ ?_
   simp only [spec_l12Size.l1]
   rw [rd_nat hmm,wrap_add (a:=(m:Int)) (by omega) (by omega),hym]
   refine Ev.pos (by omega) (Ev.pos (by omega) (Ev.pos (by omega) (Ev.pos (by omega) (Ev.pos (by omega) (Ev.pos (by omega) (Ev.pos (by omega) ?_))))))
   rw [List.take_succ_eq_append_getElem hmm,List.foldl_append,hym] at ihm
   exact ihm
theorem take_lt {l:List Int} (h:l.Pairwise (· < ·)) {i:Nat} (hi:i < l.length):∀ m,m≤l.length→(l.take m).filter (fun o=>decide (o < l[i]))=l.take (min m i)
 | 0,_=>by simp
 | m + 1,hm=>by
  have hml:m < l.length:=by omega
  rw [List.take_succ_eq_append_getElem hml,List.filter_append,take_lt h hi m (by omega)]
  by_cases c:m < i
  ·rw [List.filter_cons_of_pos (by simpa using pw_idx h hml hi c),List.filter_nil,Nat.min_eq_left (by omega),Nat.min_eq_left (by omega),List.take_succ_eq_append_getElem hml]
  ·have:¬ l[m] < l[i]:=by
    rcases Nat.lt_or_ge i m with h2 | h2
    ·have:=pw_idx h hi hml h2;omega
    ·obtain rfl:m=i:=by omega
     omega
   rw [List.filter_cons_of_neg (by simpa using this),List.filter_nil,List.append_nil,Nat.min_eq_right (by omega),Nat.min_eq_right (by omega)]
theorem implSize_ev {sz:List Int} {fc:List (List Int)} (g:GoodS sz fc) {s:Int} (hs:isSet s) (hl:Srt sz (setL s)):Ev (fun k=>impl_Stats_size.f k sz fc s) (sizeV sz fc (setL s)):=by
 have h6:=setL_len s
 unfold impl_Stats_size.f
 refine Ev.bind (setL_ev s hs.1 hs.2) ?_
 obtain ⟨l,hll⟩:∃ l,l=setL s:=⟨_,rfl⟩
 rw [← hll] at hl h6 ⊢
 have loop:=loop_up (n:=l.length) (P:=fun i=>Ev (fun k=>impl_Stats_size.l0 k s (st sz fc l i).1 (st sz fc l i).2 l (l.length:Int) (i:Int) sz fc) (sizeV sz fc l)) ?_ ?_
 ·exact loop 0 (Nat.zero_le _)
 ·refine Ev.succ ?_
  simp only [impl_Stats_size.l0]
  have:=(st_le g hl h6 l.length (Nat.le_refl _)).1
  exact Ev.neg (by omega) (Ev.neg (by omega) (Ev.const rfl))
 ·intro i hi ih
  have hm:=hl.mem _ (List.getElem_mem hi)
  refine Ev.succ ?_
  simp only [impl_Stats_size.l0]
  rw [rd_nat hi]
  have hev:=setL_ev s hs.1 hs.2
  rw [← hll] at hev
  refine Ev.pos (by omega) (Ev.pos (by omega) (Ev.pos (by omega) (Ev.pos (by omega) (Ev.pos (by omega) (Ev.bind hev ?_)))))
  have inner:=loop_up (n:=l.length) (P:=fun m=>Ev (fun k=>impl_Stats_size.l1 k s (wrap64 ((st sz fc l i).1 * rd sz l[i])) (((l.take m).filter (fun o=>decide (o < l[i]))).foldl (fun d o=>wrap64 (d * rd (rd_L1 fc l[i]) o)) (st sz fc l i).2) l[i] l (l.length:Int) (i:Int) l (l.length:Int) (m:Int) sz fc) (sizeV sz fc l)) ?_ ?_
  ·exact inner 0 (Nat.zero_le _)
  ·refine Ev.succ ?_
   simp only [impl_Stats_size.l1]
   rw [wrap_add (a:=(i:Int)) (by omega) (by omega),take_lt hl.pw hi l.length (Nat.le_refl _),Nat.min_eq_right (by omega)]
   refine Ev.neg (by omega) ?_
   have e:st sz fc l (i + 1)=(wrap64 ((st sz fc l i).1 * rd sz l[i]),(l.take i).foldl (fun d o=>wrap64 (d * rd (rd_L1 fc l[i]) o)) (st sz fc l i).2):=by simp only [st];rw [rd_nat hi]
   rw [e] at ih
   exact ih
  ·intro m hml ihm
   have hmo:=hl.mem _ (List.getElem_mem hml)
   refine Ev.succ ?_
   simp only [impl_Stats_size.l1]
   rw [rd_nat hml,wrap_add (a:=(m:Int)) (by omega) (by omega)]
   rw [List.take_succ_eq_append_getElem hml,List.filter_append,List.foldl_append] at ihm
   refine Ev.pos (by omega) (Ev.pos (by omega) (Ev.pos (by omega) ?_))
   by_cases c:l[m] < l[i]
   ·obtain ⟨f1,f2,_,_⟩:=rd_fac g hm hmo.1 c
    rw [List.filter_cons_of_pos (by simpa using c),List.filter_nil] at ihm
    exact Ev.pos c (Ev.pos (by omega) (Ev.pos (by omega) (Ev.pos (by omega) (Ev.pos (by omega) ihm))))
   ·rw [List.filter_cons_of_neg (by simpa using c),List.filter_nil] at ihm
    exact Ev.neg c ihm
/-- What is told in between by an order, up to a place. -/
def cst (sz:List Int) (fc:List (List Int)) (o:List Int):Nat→Int
 | 0=>0
 | i + 1=>if 0 < i then wrap64 (cst sz fc o i + sizeV sz fc (setL (setI (o.take (i + 1))))) else 0
def cost (sz:List Int) (fc:List (List Int)) (o:List Int):Int:=cst sz fc o o.length
theorem cst_same {sz:List Int} {fc:List (List Int)} (o:List Int) (a:Int):∀ i,i≤o.length→cst sz fc (o++[a]) i=cst sz fc o i
 | 0,_=>rfl
 | i + 1,h=>by
  simp only [cst]
  rw [cst_same o a i (by omega),List.take_append_of_le_length h]
theorem cost_end {sz:List Int} {fc:List (List Int)} {o:List Int} (a:Int) (ho:o ≠ []):cost sz fc (o++[a])=wrap64 (cost sz fc o + sizeV sz fc (setL (setI (o++[a])))):=by
 have hp:0 < o.length:=List.length_pos_iff.2 ho
 unfold cost
 rw [List.length_append,List.length_singleton]
 simp only [cst]
 rw [if_pos hp,cst_same o a o.length (Nat.le_refl _),List.take_of_length_le (by simp)]
theorem setI_set {sz:List Int} (hn:sz.length≤6) {o:List Int} (h:∀ x∈o,0≤x∧x < (sz.length:Int)):isSet (setI o)∧Srt sz (setL (setI o)):=by
 obtain ⟨k1,k2⟩:=orB_foldl o 0 ⟨by omega,by omega⟩ (fun x hx=>by have:=h x hx;omega)
 refine ⟨k1,setL_pw _,fun x hx=>?_⟩
 unfold setI at hx
 rw [k2,mem_foldl_putL] at hx
 rcases hx with hx | hx
 ·rw [show setL 0=[] from by decide +kernel] at hx;cases hx
 ·exact h x hx
theorem specCost_ev {sz:List Int} {fc:List (List Int)} (g:GoodS sz fc) {o:List Int} (h:∀ x∈o,0≤x∧x < (sz.length:Int)) (hl:o.length≤1000):Ev (fun k=>spec_l12Cost.f k sz fc o) (cost sz fc o):=by
 have n6:=g.n6
 have loop:=loop_up (n:=o.length) (P:=fun i=>Ev (fun k=>spec_l12Cost.l0 k (cst sz fc o i) (setL (setI (o.take i))) o (o.length:Int) (i:Int) sz fc) (cost sz fc o)) ?_ ?_
 ·unfold spec_l12Cost.f
  have:=loop 0 (Nat.zero_le _)
  rw [List.take_zero,show setL (setI [])=[] from by decide +kernel] at this
  exact this
 ·refine Ev.succ ?_
  simp only [spec_l12Cost.l0]
  exact Ev.neg (by omega) (Ev.const rfl)
 ·intro i hi ih
  have hx:=h _ (List.getElem_mem hi)
  obtain ⟨s1,_⟩:=setI_set n6 (o:=o.take i) (fun x hx=>h x (List.mem_of_mem_take hx))
  obtain ⟨s2,s3⟩:=setI_set n6 (o:=o.take (i + 1)) (fun x hx=>h x (List.mem_of_mem_take hx))
  have e:setI (o.take (i + 1))=orB (setI (o.take i)) o[i]:=by unfold setI;rw [List.take_succ_eq_append_getElem hi,List.foldl_append];rfl
  refine Ev.succ ?_
  simp only [spec_l12Cost.l0]
  rw [rd_nat hi,wrap_add (by omega) (by omega)]
  refine Ev.pos (by omega) (Ev.pos (by omega) (Ev.pos (by omega) (Ev.bind (l7Put_set _ _ s1 hx.1 (by omega)) ?_)))
  rw [← e]
  simp only [cst] at ih
  by_cases c:0 < i
  ·rw [if_pos c] at ih
   exact Ev.pos (by omega) (Ev.bind (specSize_ev g s3 (setL_len _)) ih)
  ·rw [if_neg c] at ih
   obtain rfl:i=0:=by omega
   exact Ev.neg (by omega) ih
/-! ### the best order -/
def bef : List Int→List Int→Bool
 | a :: l,b :: m=>if a=b then bef l m else decide (a < b)
 | _,_=>false
theorem specBefore_ev (a b:List Int) (hl:a.length=b.length) (hs:a.length≤1000):Ev (fun k=>spec_l12Before.f k a b) (bef a b):=by
 have loop:=loop_up (n:=a.length) (P:=fun i=>Ev (fun k=>spec_l12Before.l0 k a b (a.length:Int) (i:Int)) (bef (a.drop i) (b.drop i))) ?_ ?_
 ·unfold spec_l12Before.f
  exact loop 0 (Nat.zero_le _)
 ·refine Ev.succ ?_
  simp only [spec_l12Before.l0]
  rw [List.drop_eq_nil_of_le (Nat.le_refl _)]
  exact Ev.neg (by omega) (Ev.const rfl)
 ·intro i hi ih
  have hib:i < b.length:=by omega
  refine Ev.succ ?_
  simp only [spec_l12Before.l0]
  rw [rd_nat hi,rd_nat hib,wrap_add (by omega) (by omega),List.drop_eq_getElem_cons hi,List.drop_eq_getElem_cons hib]
  refine Ev.pos (by omega) (Ev.pos (by omega) (Ev.pos (by omega) (Ev.pos (by omega) ?_)))
  by_cases c:a[i]=b[i]
  ·refine Ev.pos c ?_
   rw [bef,if_pos c];exact ih
  ·refine Ev.neg c (Ev.const ?_)
   rw [bef,if_neg c]
def cmpv : List Int→List Int→Int
 | a :: l,b :: m=>if a=b then cmpv l m else if a < b then -1 else 1
 | _,_=>0
theorem cmpv_bef : ∀ a b:List Int,decide (cmpv a b < 0)=bef a b
 | [],b=>by simp [cmpv,bef]
 | a :: l,[]=>by simp [cmpv,bef]
 | a :: l,b :: m=>by
  rw [cmpv,bef]
  by_cases c:a=b
  ·rw [if_pos c,if_pos c];exact cmpv_bef l m
  ·rw [if_neg c,if_neg c]
   by_cases d:a < b
   ·rw [if_pos d];simp [d]
   ·rw [if_neg d];simp [d]
theorem compare_some (a b:Int):cmp_Compare_int.f a b=some (if a < b then -1 else if a > b then 1 else 0):=by
 have e:∀ x:Int,cmp_isNaN_int.f x=some false:=fun x=>by unfold cmp_isNaN_int.f;rw [bne_self_eq_false]
 unfold cmp_Compare_int.f
 rw [e,e]
 simp only [Option.bind_some]
 rw [if_neg (by simp),if_neg (by simp)]
 by_cases h:a < b
 ·rw [if_pos h,if_pos h]
 ·rw [if_neg h,if_neg h]
  by_cases h2:a > b
  ·rw [if_pos h2,if_pos h2]
  ·rw [if_neg h2,if_neg h2]
theorem implCompare_ev (a b:List Int) (hl:a.length=b.length) (hs:a.length≤1000):Ev (fun k=>slices_Compare_int_int.f k a b) (cmpv a b):=by
 have loop:=loop_up (n:=a.length) (P:=fun i=>Ev (fun k=>slices_Compare_int_int.l0 k a b a (a.length:Int) (i:Int)) (cmpv (a.drop i) (b.drop i))) ?_ ?_
 ·unfold slices_Compare_int_int.f
  exact loop 0 (Nat.zero_le _)
 ·refine Ev.succ ?_
  simp only [slices_Compare_int_int.l0]
  rw [List.drop_eq_nil_of_le (Nat.le_refl _),List.drop_eq_nil_of_le (by omega)]
  exact Ev.neg (by omega) (Ev.neg (by omega) (Ev.const rfl))
 ·intro i hi ih
  have hib:i < b.length:=by omega
  refine Ev.succ ?_
  simp only [slices_Compare_int_int.l0]
  rw [rd_nat hi,rd_nat hib,compare_some,wrap_add (by omega) (by omega),List.drop_eq_getElem_cons hi,List.drop_eq_getElem_cons hib]
  refine Ev.pos (by omega) (Ev.pos (by omega) (Ev.pos (by omega) (Ev.neg (by omega) (Ev.pos (by omega) (Ev.bind (Ev.const rfl) ?_)))))
  rw [cmpv]
  by_cases c:a[i]=b[i]
  ·rw [if_pos c]
   refine Ev.pos ?_ ih
   rw [if_neg (by omega),if_neg (by omega)]
  ·rw [if_neg c]
   by_cases d:a[i] < b[i]
   ·rw [if_pos d,if_pos d];exact Ev.neg (by omega) (Ev.const rfl)
   ·rw [if_neg d,if_neg d,if_pos (by omega)];exact Ev.neg (by omega) (Ev.const rfl)
def pick (sz:List Int) (fc:List (List Int)) (b o:List Int):List Int :=
 if b.length=0 then o else if cost sz fc o < cost sz fc b then o else if cost sz fc o=cost sz fc b then (if bef o b=true then o else b) else b
theorem pick_or (sz:List Int) (fc:List (List Int)) (b o:List Int):pick sz fc b o=o ∨ (pick sz fc b o=b∧b.length ≠ 0):=by
 unfold pick
 by_cases h:b.length=0
 ·rw [if_pos h];exact .inl rfl
 ·rw [if_neg h]
  split
  ·exact .inl rfl
  ·split
   ·split
    ·exact .inl rfl
    ·exact .inr ⟨rfl,h⟩
   ·exact .inr ⟨rfl,h⟩
def bst (sz:List Int) (fc:List (List Int)):Nat→Int→List Int
 | 0,_=>[]
 | f + 1,s=>if (setL s).length=1 then setL s else (setL s).foldl (fun b a=>pick sz fc b (bst sz fc f (minusS s (bitS a))++[a])) []
structure OkB (s : Int) (o : List Int) : Prop where
 len:o.length=(setL s).length
 mem:∀ x∈o,x∈setL s
 set:setI o=s
theorem foldl_pick {sz:List Int} {fc:List (List Int)} {c:Int→List Int} {P:List Int→Prop}:∀ (l b:List Int),(b.length=0 ∨ P b)→(∀ a∈l,P (c a))→(l ≠ [] ∨ P b)→P (l.foldl (fun b a=>pick sz fc b (c a)) b)
 | [],b,_,_,h=>h.elim (fun h=>absurd rfl h) id
 | a :: l,b,hb,hc,_=>by
  rw [List.foldl_cons]
  have hp:P (pick sz fc b (c a)):=by
   rcases pick_or sz fc b (c a) with e | ⟨e,h0⟩
   ·rw [e];exact hc a List.mem_cons_self
   ·rw [e];exact hb.elim (fun h=>absurd h h0) id
  exact foldl_pick l _ (.inr hp) (fun x hx=>hc x (List.mem_cons_of_mem _ hx)) (.inr hp)
theorem setI_setL {s:Int} (hs:isSet s):setI (setL s)=s:=by
 obtain ⟨m,rfl⟩:=fin_set hs
 have key:∀ m:Fin 64,setI (setL (m.val:Int))=(m.val:Int):=by decide +kernel
 exact key m
theorem one_less {s a:Int} (hs:isSet s) (ha:a∈setL s):(0≤a∧a≤5)∧isSet (minusS s (bitS a))∧(setL (minusS s (bitS a))).length + 1=(setL s).length∧orB (minusS s (bitS a)) a=s:=by
 obtain ⟨m,rfl⟩:=fin_set hs
 obtain ⟨k,rfl,hk⟩:=mem_setL.1 ha
 have key:∀ (m:Fin 64) (k:Fin 6),m.val.testBit k.val=true→(0≤minusS (m.val:Int) (bitS (k.val:Int))∧minusS (m.val:Int) (bitS (k.val:Int)) < 64)∧(setL (minusS (m.val:Int) (bitS (k.val:Int)))).length + 1=(setL (m.val:Int)).length∧orB (minusS (m.val:Int) (bitS (k.val:Int))) (k.val:Int)=(m.val:Int):=by decide +kernel
 obtain ⟨k1,k2,k3⟩:=key m k hk
 exact ⟨⟨by omega,by have:=k.isLt;omega⟩,k1,k2,k3⟩
theorem cand_ok {s a:Int} {o:List Int} (hs:isSet s) (ha:a∈setL s) (ho:OkB (minusS s (bitS a)) o):OkB s (o++[a]):=by
 obtain ⟨⟨a0,a5⟩,k1,k2,k3⟩:=one_less hs ha
 obtain ⟨m1,m2⟩:=minus_list hs a0 a5
 refine ⟨?_,fun x hx=>?_,?_⟩
 ·rw [List.length_append,List.length_singleton,ho.len,k2]
 ·rcases List.mem_append.1 hx with hx | hx
  ·have:=ho.mem x hx
   rw [m2] at this
   exact (List.mem_filter.1 this).1
  ·obtain rfl:x=a:=by simpa using hx
   exact ha
 ·have e:setI (o++[a])=orB (setI o) a:=by unfold setI;rw [List.foldl_append];rfl
  rw [e,ho.set,k3]
theorem bst_ok (sz:List Int) (fc:List (List Int)):∀ (f:Nat) (s:Int),isSet s→1≤(setL s).length→(setL s).length≤f→OkB s (bst sz fc f s)
 | 0,s,_,h1,h2=>by omega
 | f + 1,s,hs,h1,h2=>by
  rw [bst]
  by_cases c:(setL s).length=1
  ·rw [if_pos c]
   exact ⟨rfl,fun x hx=>hx,setI_setL hs⟩
  ·rw [if_neg c]
   refine foldl_pick (c:=fun a=>bst sz fc f (minusS s (bitS a))++[a]) (setL s) [] (.inl rfl) (fun a ha=>?_) (.inl (fun e=>by rw [e] at h1;simp at h1))
   obtain ⟨_,k1,k2,_⟩:=one_less hs ha
   exact cand_ok hs ha (bst_ok sz fc f _ k1 (by omega) (by omega))
theorem ok_range {sz:List Int} {s:Int} (hl:Srt sz (setL s)) {o:List Int} (ho:OkB s o):∀ x∈o,0≤x∧x < (sz.length:Int):=fun x hx=>hl.mem x (ho.mem x hx)
theorem srt_less {sz:List Int} {s a:Int} (hs:isSet s) (hl:Srt sz (setL s)) (ha:a∈setL s):Srt sz (setL (minusS s (bitS a))):=by
 obtain ⟨⟨a0,a5⟩,_,_,_⟩:=one_less hs ha
 obtain ⟨_,m2⟩:=minus_list hs a0 a5
 exact ⟨setL_pw _,fun x hx=>hl.mem x (by rw [m2] at hx;exact (List.mem_filter.1 hx).1)⟩
theorem specBest_ev {sz:List Int} {fc:List (List Int)} (g:GoodS sz fc):∀ (f:Nat) (s:Int),isSet s→Srt sz (setL s)→1≤(setL s).length→(setL s).length≤f→Ev (fun k=>spec_l12Best.f k sz fc (setL s)) (bst sz fc f s)
 | 0,s,_,_,h1,h2=>by omega
 | f + 1,s,hs,hl,h1,h2=>by
  have h6:=setL_len s
  refine Ev.succ ?_
  simp only [spec_l12Best.f,Option.bind_some,List.nil_append,List.length_nil,Nat.zero_add]
  rw [bst]
  by_cases c:(setL s).length=1
  ·rw [if_pos c]
   exact Ev.pos (by omega) (Ev.pos (by omega) (Ev.const rfl))
  rw [if_neg c]
  refine Ev.neg (by omega) ?_
  obtain ⟨l,hll⟩:∃ l,l=setL s:=⟨_,rfl⟩
  have hl6:l.length≤6:=by rw [hll];exact h6
  have loop:=loop_up (n:=l.length) (P:=fun i=>∀ b:List Int,(b.length=0 ∨ OkB s b)→Ev (fun k=>spec_l12Best.l0 k l b l (l.length:Int) (i:Int) sz fc) ((l.drop i).foldl (fun b a=>pick sz fc b (bst sz fc f (minusS s (bitS a))++[a])) b)) ?_ ?_
  ·rw [← hll]
   exact loop 0 (Nat.zero_le _) [] (.inl rfl)
  ·intro b hb
   refine Ev.succ ?_
   simp only [spec_l12Best.l0]
   rw [List.drop_eq_nil_of_le (Nat.le_refl _)]
   exact Ev.neg (by omega) (Ev.const rfl)
  ·intro i hi ih b hb
   have ha:l[i]∈setL s:=by rw [← hll];exact List.getElem_mem hi
   obtain ⟨⟨a0,a5⟩,k1,k2,k3⟩:=one_less hs ha
   obtain ⟨_,m2⟩:=minus_list hs a0 a5
   have hIH:=specBest_ev g f _ k1 (srt_less hs hl ha) (by omega) (by omega)
   have hob:=bst_ok sz fc f _ k1 (by omega) (by omega)
   have hc:=cand_ok hs ha hob
   have ew:oth l l[i]=setL (minusS s (bitS l[i])):=by rw [m2,← hll];rfl
   have hw:=without_ev l l[i] (by rw [hll];omega)
   rw [ew] at hw
   obtain ⟨cc,hcc⟩:∃ cc,cc=bst sz fc f (minusS s (bitS l[i]))++[l[i]]:=⟨_,rfl⟩
   rw [← hcc] at hc
   have hlen:=hob.len
   refine Ev.succ ?_
   simp only [spec_l12Best.l0,Option.bind_some]
   rw [rd_nat hi,wrap_add (by omega) (by omega),List.drop_eq_getElem_cons hi,List.foldl_cons,← hcc]
   refine Ev.pos (by omega) (Ev.pos (by omega) (Ev.pos (by omega) (Ev.bind hw (Ev.bind hIH (Ev.pos (by simp;omega) ?_)))))
   rw [← hcc]
   have e6:=hc.len
   have cev:=specCost_ev g (ok_range hl hc) (by omega)
   by_cases d0:b.length=0
   ·rw [pick,if_pos d0]
    exact Ev.pos (by omega) (ih cc (.inr hc))
   have hbo:OkB s b:=hb.elim (fun h=>absurd h d0) id
   have e6b:=hbo.len
   have bev:=specCost_ev g (ok_range hl hbo) (by omega)
   rw [pick,if_neg d0]
   refine Ev.neg (by omega) (Ev.bind cev (Ev.bind bev ?_))
   by_cases d1:cost sz fc cc < cost sz fc b
   ·rw [if_pos d1]
    exact Ev.pos d1 (ih cc (.inr hc))
   rw [if_neg d1]
   refine Ev.neg d1 (Ev.bind cev (Ev.bind bev ?_))
   by_cases d2:cost sz fc cc=cost sz fc b
   ·rw [if_pos d2]
    refine Ev.pos d2 (Ev.bind (specBefore_ev cc b (by omega) (by omega)) ?_)
    by_cases d3:bef cc b=true
    ·rw [if_pos d3];exact Ev.pos d3 (ih cc (.inr hc))
    ·rw [if_neg d3];exact Ev.neg d3 (ih b (.inr hbo))
   ·rw [if_neg d2];exact Ev.neg d2 (ih b (.inr hbo))
theorem implBest_ev {sz:List Int} {fc:List (List Int)} (g:GoodS sz fc):∀ (f:Nat) (s:Int),isSet s→Srt sz (setL s)→1≤(setL s).length→(setL s).length≤f→Ev (fun k=>impl_Stats_best.f k sz fc s) (bst sz fc f s,cost sz fc (bst sz fc f s))
 | 0,s,_,_,h1,h2=>by omega
 | f + 1,s,hs,hl,h1,h2=>by
  have h6:=setL_len s
  refine Ev.succ ?_
  simp only [impl_Stats_best.f]
  refine Ev.bind (setL_ev s hs.1 hs.2) ?_
  rw [bst]
  by_cases c:(setL s).length=1
  ·rw [if_pos c]
   refine Ev.pos (by omega) (Ev.const ?_)
   unfold cost
   rw [c]
   simp [cst]
  rw [if_neg c]
  refine Ev.neg (by omega) ?_
  obtain ⟨l,hll⟩:∃ l,l=setL s:=⟨_,rfl⟩
  have hl6:l.length≤6:=by rw [hll];exact h6
  have loop:=loop_up (n:=l.length) (P:=fun i=>∀ b:List Int,(b.length=0 ∨ OkB s b)→Ev (fun k=>impl_Stats_best.l0 k s l (l.length:Int) (i:Int) sz fc b (cost sz fc b)) ((l.drop i).foldl (fun b a=>pick sz fc b (bst sz fc f (minusS s (bitS a))++[a])) b,cost sz fc ((l.drop i).foldl (fun b a=>pick sz fc b (bst sz fc f (minusS s (bitS a))++[a])) b))) ?_ ?_
  ·rw [← hll]
   exact loop 0 (Nat.zero_le _) [] (.inl rfl)
  ·intro b hb
   refine Ev.succ ?_
   simp only [impl_Stats_best.l0]
   rw [List.drop_eq_nil_of_le (Nat.le_refl _)]
   exact Ev.neg (by omega) (Ev.const rfl)
  ·intro i hi ih b hb
   have ha:l[i]∈setL s:=by rw [← hll];exact List.getElem_mem hi
   obtain ⟨⟨a0,a5⟩,k1,k2,k3⟩:=one_less hs ha
   have hIH:=implBest_ev g f _ k1 (srt_less hs hl ha) (by omega) (by omega)
   have hob:=bst_ok sz fc f _ k1 (by omega) (by omega)
   have hc:=cand_ok hs ha hob
   have hne:bst sz fc f (minusS s (bitS l[i])) ≠ []:=fun e=>by have:=hob.len;rw [e] at this;simp at this;omega
   have hce:=cost_end (sz:=sz) (fc:=fc) l[i] hne
   rw [hc.set] at hce
   obtain ⟨cc,hcc⟩:∃ cc,cc=bst sz fc f (minusS s (bitS l[i]))++[l[i]]:=⟨_,rfl⟩
   rw [← hcc] at hc hce
   have hlen:=hob.len
   refine Ev.succ ?_
   simp only [impl_Stats_best.l0,Option.bind_some]
   rw [rd_nat hi,wrap_add (by omega) (by omega),List.drop_eq_getElem_cons hi,List.foldl_cons,← hcc]
   refine Ev.pos (by omega) (Ev.pos (by omega) (Ev.pos (by omega) (Ev.pos (by omega) (Ev.bind hIH ?_))))
   refine Ev.bind (a:=bst sz fc f (minusS s (bitS l[i]))) (Ev.const (by unfold clone_Int.f;rw [if_pos (by simp only [];omega)])) (Ev.pos (by simp;omega) (Ev.bind (implSize_ev g hs hl) ?_))
   rw [← hcc]
   simp only []
   rw [← hce]
   have e6:=hc.len
   by_cases d0:b.length=0
   ·rw [pick,if_pos d0]
    exact Ev.pos (by omega) (ih cc (.inr hc))
   have hbo:OkB s b:=hb.elim (fun h=>absurd h d0) id
   have e6b:=hbo.len
   rw [pick,if_neg d0]
   refine Ev.neg (by omega) ?_
   by_cases d1:cost sz fc cc < cost sz fc b
   ·rw [if_pos d1]
    exact Ev.pos d1 (ih cc (.inr hc))
   rw [if_neg d1]
   refine Ev.neg d1 ?_
   by_cases d2:cost sz fc cc=cost sz fc b
   ·rw [if_pos d2]
    refine Ev.pos d2 (Ev.bind (implCompare_ev cc b (by omega) (by omega)) ?_)
    have eb:=cmpv_bef cc b
    by_cases d3:bef cc b=true
    ·rw [if_pos d3];exact Ev.pos (by rw [d3] at eb;exact of_decide_eq_true eb) (ih cc (.inr hc))
    ·rw [if_neg d3];exact Ev.neg (fun h=>d3 (by rw [← eb];exact decide_eq_true h)) (ih b (.inr hbo))
   ·rw [if_neg d2];exact Ev.neg d2 (ih b (.inr hbo))
theorem specBestOf_ev (sz:List Int) (fc:List (List Int)) (l:List Int) (hs:sz.length≤1048576) (hf:fc.length≤1048576) (hx:∀ x∈fc,x.length≤1048576) (hl:l.length≤1048576) :
  ∃ o:List Int × Int × Bool,Ev (fun k=>spec_BestOf.f k sz fc l) o∧Ev (fun k=>impl_BestOf.f k sz fc l) o∧o.1.length≤1048576:=by
 unfold spec_BestOf.f impl_BestOf.f
 have badS:Ev (fun k=>spec_BestOf.j0 k l true sz fc) ([],0,false):=Ev.succ (by simp only [spec_BestOf.j0];exact Ev.pos trivial (Ev.const rfl))
 have badI:Ev (fun k=>impl_BestOf.j0 k l true sz fc) ([],0,false):=Ev.succ (by simp only [impl_BestOf.j0];exact Ev.pos trivial (Ev.const rfl))
 by_cases g:GoodS sz fc
 case neg=>exact ⟨([],0,false),Ev.bind (specGood_ev sz fc hs hf hx) (Ev.neg (by rw [tell_no g];simp) badS),Ev.bind (implGood_ev sz fc hs hf) (Ev.neg (by rw [tell_no g];simp) badI),by simp⟩
 have n6:=g.n6
 have areSome:Ev (fun k=>impl_Stats_areSome.f k sz fc l) (decide (0 < l.length) && tell (ris l (sz.length:Int))):=by
  unfold impl_Stats_areSome.f impl_isPart.f
  by_cases c:0 < l.length
  ·refine Ev.bind (a:=tell (ris l (sz.length:Int))) (Ev.pos (by omega) (Ev.bind (areRising_ev l _ (by omega)) (Ev.const rfl))) (Ev.const ?_)
   simp [c]
  ·refine Ev.bind (a:=false) (Ev.neg (by omega) (Ev.const rfl)) (Ev.const ?_)
   simp [c]
 by_cases r:ris l (sz.length:Int)
 case neg =>
  rw [tell_no r,Bool.and_false] at areSome
  exact ⟨([],0,false),Ev.bind (specGood_ev sz fc hs hf hx) (Ev.pos (tell_yes g) (Ev.bind (l1Some_ev l _ (by omega)) (Ev.neg (by rw [tell_no r];simp) badS))),Ev.bind (implGood_ev sz fc hs hf) (Ev.pos (tell_yes g) (Ev.bind areSome badI)),by simp⟩
 rw [tell_yes r,Bool.and_true] at areSome
 by_cases e:l.length=0
 ·rw [show decide (0 < l.length)=false from decide_eq_false (by omega)] at areSome
  refine ⟨([],0,false),Ev.bind (specGood_ev sz fc hs hf hx) (Ev.pos (tell_yes g) (Ev.bind (l1Some_ev l _ (by omega)) (Ev.pos (tell_yes r) ?_))),Ev.bind (implGood_ev sz fc hs hf) (Ev.pos (tell_yes g) (Ev.bind areSome badI)),by simp⟩
  rw [show ((l.length:Int) == 0)=true from beq_iff_eq.mpr (by omega)]
  exact badS
 rw [show decide (0 < l.length)=true from decide_eq_true (by omega)] at areSome
 obtain ⟨i1,i2⟩:=setI_ok r (by omega)
 have hsrt:Srt sz (setL (setI l)):=by
  refine ⟨setL_pw _,fun x hx=>?_⟩
  rw [i2] at hx
  exact ris_mem r x hx
 have hsb:=specBest_ev g 6 (setI l) i1 hsrt (by rw [i2];omega) (setL_len _)
 have hib:=implBest_ev g 6 (setI l) i1 hsrt (by rw [i2];omega) (setL_len _)
 have hob:=bst_ok sz fc 6 (setI l) i1 (by rw [i2];omega) (setL_len _)
 have h6:=setL_len (setI l)
 have hol:=hob.len
 rw [i2] at hsb
 refine ⟨(bst sz fc 6 (setI l),cost sz fc (bst sz fc 6 (setI l)),true),Ev.bind (specGood_ev sz fc hs hf hx) (Ev.pos (tell_yes g) (Ev.bind (l1Some_ev l _ (by omega)) (Ev.pos (tell_yes r) ?_))),Ev.bind (implGood_ev sz fc hs hf) (Ev.pos (tell_yes g) (Ev.bind areSome ?_)),by simp only [];omega⟩
 ·rw [show ((l.length:Int) == 0)=false from beq_eq_false_iff_ne.mpr (by omega)]
  refine Ev.succ ?_
  simp only [spec_BestOf.j0]
  exact Ev.neg (by simp) (Ev.bind hsb (Ev.bind (specCost_ev g (ok_range hsrt hob) (by omega)) (Ev.const rfl)))
 ·refine Ev.succ ?_
  simp only [impl_BestOf.j0]
  exact Ev.neg (by simp) (Ev.bind (setOf_ev l (by omega) (fun x hx=>(ris_mem r x hx).1)) (Ev.bind hib (Ev.const rfl)))
/-! ### the best order of all tables -/
def upTo (n:Nat):List Int:=(List.range n).map fun (k:Nat)=>(k:Int)
theorem specAll_ev (sz:List Int) (fc:List (List Int)) (o:List Int × Int × Bool) (hs:sz.length≤1048576) (h:Ev (fun k=>spec_BestOf.f k sz fc (upTo sz.length)) o) :
  Ev (fun k=>spec_BestOrder.l0 k [] (sz.length:Int) 0 sz fc) o:=by
 have loop:=loop_up (n:=sz.length) (P:=fun i=>Ev (fun k=>spec_BestOrder.l0 k (upTo i) (sz.length:Int) (i:Int) sz fc) o) ?_ ?_
 ·exact loop 0 (Nat.zero_le _)
 ·refine Ev.succ ?_
  simp only [spec_BestOrder.l0]
  exact Ev.neg (by omega) (Ev.bind h (Ev.const rfl))
 ·intro i hi ih
  refine Ev.succ ?_
  simp only [spec_BestOrder.l0]
  rw [wrap_add (by omega) (by omega)]
  refine Ev.pos (by omega) (Ev.pos (by simp [upTo];omega) ?_)
  rw [show upTo i++[(i:Int)]=upTo (i + 1) from by simp [upTo,List.range_succ]]
  exact ih
theorem whole_ok {n:Nat} (hn:n≤6):impl_whole.f (n:Int)=some (wrap64 ((shl .i64 1 (n:Int)) - 1))∧isSet (wrap64 ((shl .i64 1 (n:Int)) - 1))∧setL (wrap64 ((shl .i64 1 (n:Int)) - 1))=upTo n:=by
 refine ⟨by unfold impl_whole.f;rw [if_pos (by omega)],?_⟩
 have key:∀ n:Fin 7,(0≤wrap64 ((shl .i64 1 (n.val:Int)) - 1)∧wrap64 ((shl .i64 1 (n.val:Int)) - 1) < 64)∧setL (wrap64 ((shl .i64 1 (n.val:Int)) - 1))=upTo n.val:=by decide +kernel
 exact key ⟨n,by omega⟩
theorem bestOrder_ev (sz:List Int) (fc:List (List Int)) (hs:sz.length≤1048576) (hf:fc.length≤1048576) (hx:∀ x∈fc,x.length≤1048576) :
  ∃ o:List Int × Int × Bool,Ev (fun k=>spec_BestOrder.f k sz fc) o∧Ev (fun k=>impl_BestOrder.f k sz fc) o∧o.1.length≤1048576:=by
 unfold spec_BestOrder.f impl_BestOrder.f
 by_cases g:GoodS sz fc
 case neg=>exact ⟨([],0,false),Ev.bind (specGood_ev sz fc hs hf hx) (Ev.neg (by rw [tell_no g];simp) (Ev.const rfl)),Ev.bind (implGood_ev sz fc hs hf) (Ev.neg (by rw [tell_no g];simp) (Ev.const rfl)),by simp⟩
 have n6:=g.n6
 obtain ⟨o,e1,e2,e3⟩:=specBestOf_ev sz fc (upTo sz.length) hs hf hx (by simp [upTo];omega)
 obtain ⟨w1,w2,w3⟩:=whole_ok n6
 refine ⟨o,Ev.bind (specGood_ev sz fc hs hf hx) (Ev.pos (tell_yes g) (specAll_ev sz fc o hs e1)),Ev.bind (implGood_ev sz fc hs hf) (Ev.pos (tell_yes g) (Ev.bind (Ev.const w1) (Ev.bind (setL_ev _ w2.1 w2.2) (Ev.bind (a:=o) ?_ (Ev.const rfl))))),e3⟩
 rw [w3]
 exact e2
/-! ### no order costs less than the one that is told -/
def upB : Nat→Int
 | 0=>1
 | 1=>50
 | 2=>2500
 | 3=>125000
 | 4=>6250000
 | 5=>312500000
 | _=>15625000000
theorem rd_size {sz:List Int} {fc:List (List Int)} (g:GoodS sz fc) {a:Int} (ha:0≤a∧a < (sz.length:Int)):1≤rd sz a∧rd sz a≤50:=by
 obtain ⟨m,rfl⟩:∃ m:Nat,a=(m:Int):=⟨a.toNat,by omega⟩
 have hm:m < sz.length:=by omega
 rw [rd_nat hm]
 exact g.szs _ (List.getElem_mem hm)
theorem up_le {sz:List Int} {fc:List (List Int)} (g:GoodS sz fc) {l:List Int} (hl:Srt sz l) (h6:l.length≤6):∀ i,i≤l.length→1≤(st sz fc l i).1∧(st sz fc l i).1≤upB i
 | 0,_=>by simp [st,upB]
 | i + 1,hi=>by
  obtain ⟨a,b⟩:=up_le g hl h6 i (by omega)
  have hil:i < l.length:=by omega
  obtain ⟨s1,s2⟩:=rd_size g (hl.mem _ (List.getElem_mem hil))
  simp only [st]
  rw [rd_nat hil]
  have h1:(st sz fc l i).1 * rd sz l[i]≤(st sz fc l i).1 * 50:=Int.mul_le_mul_of_nonneg_left s2 (by omega)
  have h2:(st sz fc l i).1 * 1≤(st sz fc l i).1 * rd sz l[i]:=Int.mul_le_mul_of_nonneg_left s1 (by omega)
  have key:upB i * 50≤upB (i + 1)∧upB (i + 1)≤15625000000:=by
   rcases (show i=0 ∨ i=1 ∨ i=2 ∨ i=3 ∨ i=4 ∨ i=5 by omega) with rfl | rfl | rfl | rfl | rfl | rfl <;> decide
  rw [wrap_id (by omega) (by omega)]
  exact ⟨by omega,by omega⟩
theorem sizeV_le {sz:List Int} {fc:List (List Int)} (g:GoodS sz fc) {l:List Int} (hl:Srt sz l) (h6:l.length≤6):0≤sizeV sz fc l∧sizeV sz fc l≤15625000000:=by
 obtain ⟨u1,u2⟩:=up_le g hl h6 l.length (Nat.le_refl _)
 obtain ⟨d1,_⟩:=st_le g hl h6 l.length (Nat.le_refl _)
 have hu:upB l.length≤15625000000:=by
  rcases (show l.length=0 ∨ l.length=1 ∨ l.length=2 ∨ l.length=3 ∨ l.length=4 ∨ l.length=5 ∨ l.length=6 by omega) with e | e | e | e | e | e | e <;> rw [e] <;> decide
 unfold sizeV
 rw [Int.tdiv_eq_ediv_of_nonneg (by omega)]
 have h1:0≤(st sz fc l l.length).1 / (st sz fc l l.length).2:=Int.ediv_nonneg (by omega) (by omega)
 have h2:(st sz fc l l.length).1 / (st sz fc l l.length).2≤(st sz fc l l.length).1:=Int.ediv_le_self _ (by omega)
 rw [wrap_id (by omega) (by omega)]
 exact ⟨h1,by omega⟩
theorem cst_le {sz:List Int} {fc:List (List Int)} (g:GoodS sz fc) {o:List Int} (h:∀ x∈o,0≤x∧x < (sz.length:Int)) (hl:o.length≤1000):∀ i,i≤o.length→0≤cst sz fc o i∧cst sz fc o i≤15625000000 * (i:Int)
 | 0,_=>by simp [cst]
 | i + 1,hi=>by
  obtain ⟨a,b⟩:=cst_le g h hl i (by omega)
  obtain ⟨_,s3⟩:=setI_set g.n6 (o:=o.take (i + 1)) (fun x hx=>h x (List.mem_of_mem_take hx))
  obtain ⟨v1,v2⟩:=sizeV_le g s3 (setL_len _)
  simp only [cst]
  by_cases c:0 < i
  ·rw [if_pos c,wrap_add (by omega) (by omega)]
   exact ⟨by omega,by omega⟩
  ·rw [if_neg c];exact ⟨by omega,by omega⟩
theorem cost_add {sz:List Int} {fc:List (List Int)} (g:GoodS sz fc) {o:List Int} {a:Int} (ho:o ≠ []) (h:∀ x∈o++[a],0≤x∧x < (sz.length:Int)) (hl:o.length≤999) :
  cost sz fc (o++[a])=cost sz fc o + sizeV sz fc (setL (setI (o++[a]))):=by
 obtain ⟨a1,b1⟩:=cst_le g (fun x hx=>h x (List.mem_append_left _ hx)) (by omega) o.length (Nat.le_refl _)
 obtain ⟨_,s3⟩:=setI_set g.n6 (o:=o++[a]) h
 obtain ⟨v1,v2⟩:=sizeV_le g s3 (setL_len _)
 rw [cost_end a ho]
 unfold cost
 exact wrap_add (by omega) (by omega)
theorem pick_le (sz:List Int) (fc:List (List Int)) (b o:List Int):cost sz fc (pick sz fc b o)≤cost sz fc o∧(b.length ≠ 0→cost sz fc (pick sz fc b o)≤cost sz fc b):=by
 unfold pick
 by_cases h:b.length=0
 ·rw [if_pos h];exact ⟨Int.le_refl _,fun h2=>absurd h h2⟩
 rw [if_neg h]
 by_cases h1:cost sz fc o < cost sz fc b
 ·rw [if_pos h1];exact ⟨Int.le_refl _,fun _=>by omega⟩
 rw [if_neg h1]
 by_cases h2:cost sz fc o=cost sz fc b
 ·rw [if_pos h2]
  split
  ·exact ⟨Int.le_refl _,fun _=>by omega⟩
  ·exact ⟨by omega,fun _=>Int.le_refl _⟩
 ·rw [if_neg h2];exact ⟨by omega,fun _=>Int.le_refl _⟩
theorem foldl_min {sz:List Int} {fc:List (List Int)} {c:Int→List Int} (hc:∀ a,(c a).length ≠ 0):∀ (l b:List Int),(∀ a∈l,cost sz fc (l.foldl (fun b a=>pick sz fc b (c a)) b)≤cost sz fc (c a))∧(b.length ≠ 0→cost sz fc (l.foldl (fun b a=>pick sz fc b (c a)) b)≤cost sz fc b)
 | [],b=>⟨fun a ha=>(by cases ha),fun _=>Int.le_refl _⟩
 | a :: l,b=>by
  obtain ⟨p1,p2⟩:=pick_le sz fc b (c a)
  have hn:(pick sz fc b (c a)).length ≠ 0:=by
   rcases pick_or sz fc b (c a) with e | ⟨e,h0⟩
   ·rw [e];exact hc a
   ·rw [e];exact h0
  obtain ⟨i1,i2⟩:=foldl_min (sz:=sz) (fc:=fc) hc l (pick sz fc b (c a))
  have:=i2 hn
  rw [List.foldl_cons]
  refine ⟨fun x hx=>?_,fun hb=>by have:=p2 hb;omega⟩
  rcases List.mem_cons.1 hx with rfl | hx
  ·omega
  ·exact i1 x hx
theorem foldl_putL_len : ∀ (l p:List Int),(l.foldl putL p).length≤p.length + l.length
 | [],p=>by simp
 | n :: l,p=>by
  rw [List.foldl_cons,List.length_cons]
  have h1:=foldl_putL_len l (putL p n)
  have h2:=putL_len p n
  omega
theorem setI_foldl {o:List Int} (h:∀ x∈o,0≤x∧x≤5):isSet (setI o)∧setL (setI o)=o.foldl putL []:=by
 obtain ⟨k1,k2⟩:=orB_foldl o 0 ⟨by omega,by omega⟩ h
 refine ⟨k1,?_⟩
 unfold setI
 rw [k2,show setL 0=[] from by decide +kernel]
theorem setI_len {o:List Int} (h:∀ x∈o,0≤x∧x≤5):(setL (setI o)).length≤o.length:=by
 rw [(setI_foldl h).2]
 have:=foldl_putL_len o []
 simpa using this
theorem mem_setI {o:List Int} (h:∀ x∈o,0≤x∧x≤5) (x:Int):x∈setL (setI o)↔x∈o:=by
 rw [(setI_foldl h).2,mem_foldl_putL];simp
theorem orB_cases {t a:Int} (ht:isSet t) (a0:0≤a) (a5:a≤5):(a∈setL t∧orB t a=t∧hasB t (bitS a)=true) ∨ (a ∉ setL t∧minusS (orB t a) (bitS a)=t∧(setL (orB t a)).length=(setL t).length + 1∧hasB t (bitS a)=false):=by
 obtain ⟨m,rfl⟩:=fin_set ht
 obtain ⟨k,rfl⟩:=fin_num a0 a5
 have key:∀ (m:Fin 64) (k:Fin 6),((k.val:Int)∈setL (m.val:Int)∧orB (m.val:Int) (k.val:Int)=(m.val:Int)∧hasB (m.val:Int) (bitS (k.val:Int))=true) ∨ ((k.val:Int) ∉ setL (m.val:Int)∧minusS (orB (m.val:Int) (k.val:Int)) (bitS (k.val:Int))=(m.val:Int)∧(setL (orB (m.val:Int) (k.val:Int))).length=(setL (m.val:Int)).length + 1∧hasB (m.val:Int) (bitS (k.val:Int))=false):=by decide +kernel
 exact key m k
theorem best_least {sz:List Int} {fc:List (List Int)} (g:GoodS sz fc):∀ (f:Nat) (s:Int) (o:List Int),isSet s→Srt sz (setL s)→1≤(setL s).length→(setL s).length≤f→OkB s o→cost sz fc (bst sz fc f s)≤cost sz fc o
 | 0,s,o,_,_,h1,h2,_=>by omega
 | f + 1,s,o,hs,hl,h1,h2,ho=>by
  have n6:=g.n6
  have hlen:=ho.len
  have h6:=setL_len s
  rw [bst]
  by_cases c:(setL s).length=1
  ·rw [if_pos c]
   unfold cost
   rw [hlen,c]
   simp [cst]
  rw [if_neg c]
  obtain ⟨p,a,rfl⟩:∃ p a,o=p++[a]:=by
   rcases List.eq_nil_or_concat o with e | ⟨p,a,e⟩
   ·rw [e] at hlen;simp at hlen;omega
   ·exact ⟨p,a,by simpa using e⟩
  have hr:=ok_range hl ho
  have ha:a∈setL s:=ho.mem a (by simp)
  obtain ⟨⟨a0,a5⟩,k1,k2,k3⟩:=one_less hs ha
  have hp5:∀ x∈p,0≤x∧x≤5:=fun x hx=>by have:=hr x (List.mem_append_left _ hx);omega
  obtain ⟨t1,_⟩:=setI_foldl hp5
  have hpl:=setI_len hp5
  have hos:orB (setI p) a=s:=by rw [← ho.set];unfold setI;rw [List.foldl_append];rfl
  have hpn:p.length + 1=(setL s).length:=by rw [← hlen];simp
  have hps:setI p=minusS s (bitS a):=by
   rcases orB_cases t1 a0 a5 with ⟨_,e,_⟩ | ⟨_,e,_,_⟩
   ·rw [hos] at e
    rw [← e] at hpl
    omega
   ·rw [hos] at e;exact e.symm
  have hop:OkB (minusS s (bitS a)) p:=⟨by omega,fun x hx=>by rw [← hps];exact (mem_setI hp5 x).2 hx,hps⟩
  have hne:p ≠ []:=fun e=>by rw [e] at hpn;simp at hpn;omega
  have ih:=best_least g f _ p k1 (srt_less hs hl ha) (by omega) (by omega) hop
  have hob:=bst_ok sz fc f _ k1 (by omega) (by omega)
  have hcd:=cand_ok hs ha hob
  have hbne:bst sz fc f (minusS s (bitS a)) ≠ []:=fun e=>by have:=hob.len;rw [e] at this;simp at this;omega
  have e1:=cost_add g hne hr (by omega)
  have e2:=cost_add g hbne (ok_range hl hcd) (by have:=hob.len;omega)
  rw [ho.set] at e1
  rw [hcd.set] at e2
  have:=(foldl_min (sz:=sz) (fc:=fc) (c:=fun a=>bst sz fc f (minusS s (bitS a))++[a]) (fun a=>by simp) (setL s) []).1 a ha
  omega
/-- An order of so many tables. -/
def isOrd (n:Nat) (o:List Int):Prop:=o.length=n∧(∀ x∈o,0≤x∧x < (n:Int))∧(setL (setI o)).length=n
theorem ord_ok {n:Nat} (hn:n≤6) {F:Int} (hF:isSet F) (hFL:setL F=(List.range n).map fun (k:Nat)=>(k:Int)) {o:List Int}:isOrd n o↔OkB F o:=by
 have hlen:(setL F).length=n:=by rw [hFL];simp
 have hmem:∀ x,x∈setL F↔0≤x∧x < (n:Int):=fun x=>by
  rw [hFL]
  simp only [List.mem_map,List.mem_range]
  constructor
  ·rintro ⟨k,hk,rfl⟩;omega
  ·intro h;exact ⟨x.toNat,by omega,by omega⟩
 constructor
 ·rintro ⟨h1,h2,h3⟩
  have h5:∀ x∈o,0≤x∧x≤5:=fun x hx=>by have:=h2 x hx;omega
  refine ⟨by omega,fun x hx=>(hmem x).2 (h2 x hx),?_⟩
  exact ((sub_len hF (setI_foldl h5).1 (fun x hx=>(hmem x).2 (h2 x ((mem_setI h5 x).1 hx)))).2.1 (by omega)).symm
 ·rintro ⟨h1,h2,h3⟩
  exact ⟨by omega,fun x hx=>(hmem x).1 (h2 x hx),by rw [h3];omega⟩
theorem ord_swap {n:Nat} (hn:n≤6) {o:List Int} (h:isOrd n o) {i j:Nat} (hi:i < o.length) (hj:j < o.length):isOrd n ((o.set i o[j]).set j o[i]):=by
 obtain ⟨h1,h2,h3⟩:=h
 have hp:((o.set i o[j]).set j o[i]).Perm o:=List.set_set_perm hi hj
 have h2':∀ x∈(o.set i o[j]).set j o[i],0≤x∧x < (n:Int):=fun x hx=>h2 x (hp.mem_iff.1 hx)
 refine ⟨by simpa using h1,h2',?_⟩
 rw [← h3]
 congr 1
 refine pw_eq (setL_pw _) (setL_pw _) fun x=>?_
 rw [mem_setI (fun x hx=>by have:=h2' x hx;omega),mem_setI (fun x hx=>by have:=h2 x hx;omega)]
 exact hp.mem_iff
/-! ### what is drawn: a byte after the other, then numbers out of a seed -/
theorem and255 (x:Int):0≤Go.bits .and .u64 x 255∧Go.bits .and .u64 x 255≤255:=by
 have h:((BitVec.ofInt 64 x) &&& (BitVec.ofInt 64 255)).toNat≤255:=by
  rw [BitVec.toNat_and]
  exact Nat.le_trans Nat.and_le_right (by decide)
 have uw:∀ m:Int,IntKind.u64.wrap m=m % 18446744073709551616:=fun m=>by simp [IntKind.wrap,IntKind.bits,IntKind.signed]
 have e:Go.bits .and .u64 x 255=IntKind.u64.wrap ((((BitVec.ofInt 64 x) &&& (BitVec.ofInt 64 255)).toNat:Nat):Int):=rfl
 rw [e,uw]
 generalize ((BitVec.ofInt 64 x) &&& (BitVec.ofInt 64 255)).toNat=m at h
 omega
def bytesOk (code:List Int):Prop:=code.length≤1073741824∧∀ x∈code,0≤x∧x≤255
theorem next_some {code:List Int} (hb:bytesOk code) (p s:Int) (h0:0≤p) (h1:p≤1073741824):∃ v s',spec_l1Cur_next.f code p s=some (v,p + 1,s')∧0≤v∧v≤255:=by
 have hw:wrap64 (p + 1)=p + 1:=wrap_add (by omega) (by omega)
 unfold spec_l1Cur_next.f
 rw [hw]
 by_cases c1:p < (code.length:Int)
 ·obtain ⟨i,rfl⟩:∃ i:Nat,p=(i:Int):=⟨p.toNat,by omega⟩
  have hi:i < code.length:=by omega
  have hr:=hb.2 _ (List.getElem_mem hi)
  rw [if_pos c1,if_pos h0,if_pos (by omega),rd_nat hi,wrap_id (by omega) (by omega)]
  exact ⟨_,_,rfl,hr.1,hr.2⟩
 ·rw [if_neg c1,if_neg (by omega)]
  obtain ⟨a,b⟩:=and255 ((IntKind.u64.wrap ((IntKind.u64.wrap ((IntKind.u64.wrap (s * 6364136223846793005)) + 0)) + 1442695040888963407)) / 1099511627776)
  rw [wrap_id (a:=Go.bits .and .u64 _ 255) (by omega) (by omega)]
  exact ⟨_,_,rfl,a,b⟩
theorem pick_some {code:List Int} (hb:bytesOk code) (p s n:Int) (h0:0≤p) (h1:p≤1073741824) (hn:n≤200):∃ v p' s',spec_l1Cur_pick.f code p s n=some (v,p',s')∧0≤v∧(1≤n→v < n)∧p≤p'∧p'≤p + 1:=by
 unfold spec_l1Cur_pick.f
 by_cases c:n≤1
 ·rw [if_pos c]
  exact ⟨0,p,s,rfl,Int.le_refl _,fun h=>by omega,by omega,by omega⟩
 ·obtain ⟨v,s',e,v0,v1⟩:=next_some hb p s h0 h1
  rw [if_neg c,e]
  simp only [Option.bind_some]
  rw [if_neg (by omega),if_neg (by omega)]
  exact ⟨_,_,_,rfl,Int.tmod_nonneg _ v0,fun _=>Int.tmod_lt_of_pos _ (by omega),by omega,by omega⟩
theorem one_some {code:List Int} (hb:bytesOk code) (p s n:Int) (h0:0≤p) (h1:p≤1073741824) (hn:n≤200):∃ b p' s',spec_l1Cur_one.f code p s n=some (b,p',s')∧p≤p'∧p'≤p + 1:=by
 obtain ⟨v,p',s',e,_,_,a,b⟩:=pick_some hb p s n h0 h1 hn
 unfold spec_l1Cur_one.f
 rw [e]
 exact ⟨_,_,_,rfl,a,b⟩
theorem bytes_wf {l:List Int} (hl:l.length≤1073741824) (h:∀ x∈l,(Lit.int .u8 x).wf=true):bytesOk l:=by
 refine ⟨hl,fun x hx=>?_⟩
 have:=h x hx
 simp [Lit.wf] at this
 have e1:IntKind.u8.min=0:=rfl
 have e2:IntKind.u8.max=255:=rfl
 omega
/-! ### what is drawn: statistics, orders, some tables -/
theorem among_some {code:List Int} (hb:bytesOk code) (l:List Int) (hl:1≤l.length) (hl2:l.length≤200) (p s:Int) (h0:0≤p) (h1:p≤1073741824):∃ v p' s',spec_l1Cur_among.f code p s l=some (v,p',s')∧v∈l∧p≤p'∧p'≤p + 1:=by
 obtain ⟨v,p',s',e,v0,v1,a,b⟩:=pick_some hb p s (l.length:Int) h0 h1 (by omega)
 have hv:=v1 (by omega)
 obtain ⟨i,rfl⟩:∃ i:Nat,v=(i:Int):=⟨v.toNat,by omega⟩
 have hi:i < l.length:=by omega
 unfold spec_l1Cur_among.f
 rw [e]
 simp only [Option.bind_some]
 rw [if_pos v0,if_pos hv,rd_nat hi]
 exact ⟨_,_,_,rfl,List.getElem_mem hi,a,b⟩
def statsT (r:List Int × (List (List Int)) × Int × Int):Prop:=r.1.length≤7∧r.2.1.length≤7∧(∀ x∈r.2.1,x.length≤7)∧0≤r.2.2.1∧r.2.2.1≤300
theorem row_ev {code:List Int} (hb:bytesOk code) (n x5:Int) (h5:x5≤7) (sz:List Int) (fc:List (List Int)) (hf:fc.length≤7) (T:(List Int × (List (List Int)) × Int × Int)→Prop)
  (next:∀ (y:List Int) (p s:Int),y.length≤7→0≤p→p≤210 + 10 * x5→EvX (fun k=>spec_l1Cur_stats.l0 k n (wrap64 (x5 + 1)) code p s sz (fc++[y])) T) :
  ∀ (m:Nat) (x:Int) (y:List Int) (p s:Int),0≤x→x5 - x≤m→(y.length:Int)=x→x≤7→0≤p→p≤201 + 10 * x5 + x→EvX (fun k=>spec_l1Cur_stats.l1 k n x5 y x code p s sz fc) T:=by
 intro m
 induction m with
 | zero =>
  intro x y p s x0 hm hy hx7 p0 p1
  refine EvX.succ ?_
  simp only [spec_l1Cur_stats.l1]
  exact EvX.neg (by omega) (EvX.pos (by omega) (next y p s (by omega) p0 (by omega)))
 | succ m ih =>
  intro x y p s x0 hm hy hx7 p0 p1
  refine EvX.succ ?_
  simp only [spec_l1Cur_stats.l1]
  by_cases c:x < x5
  ·obtain ⟨v,p2,s2,e2,_,a3,a4⟩:=among_some hb [1,1,2,5,10] (by decide) (by decide) p s p0 (by omega)
   rw [wrap_add (by omega) (by omega)]
   exact EvX.pos c (Ev.bindX (Ev.const e2) (EvX.pos (by omega) (ih (x + 1) _ p2 s2 (by omega) (by omega) (by simp;omega) (by omega) (by omega) (by omega))))
  ·exact EvX.neg c (EvX.pos (by omega) (next y p s (by omega) p0 (by omega)))
theorem statsLoop {code:List Int} (hb:bytesOk code) (n:Int) (hn:n≤7):∀ (m:Nat) (x:Int) (sz:List Int) (fc:List (List Int)) (p s:Int),0≤x→n - x≤m→(sz.length:Int)=x→(fc.length:Int)=x→(∀ y∈fc,y.length≤7)→x≤7→0≤p→p≤200 + 10 * x→EvX (fun k=>spec_l1Cur_stats.l0 k n x code p s sz fc) statsT:=by
 have last:∀ (x:Int) (sz:List Int) (fc:List (List Int)) (p s:Int),0≤x→¬ x < n→(sz.length:Int)=x→(fc.length:Int)=x→(∀ y∈fc,y.length≤7)→x≤7→0≤p→p≤200 + 10 * x→EvX (fun k=>spec_l1Cur_stats.l0 k n x code p s sz fc) statsT:=by
  intro x sz fc p s x0 hxn hs hf hy hx7 p0 p1
  refine EvX.succ ?_
  simp only [spec_l1Cur_stats.l0]
  refine EvX.neg hxn ?_
  by_cases c:n > 0
  ·obtain ⟨b,p2,s2,e2,a1,a2⟩:=one_some hb p s 20 p0 (by omega) (by omega)
   refine EvX.pos c (Ev.bindX (Ev.const e2) ?_)
   cases b with
   | true =>
    obtain ⟨v,p3,s3,e3,_,a3,a4⟩:=among_some hb [0,50,51] (by decide) (by decide) p2 s2 (by omega) (by omega)
    exact EvX.pos rfl (Ev.bindX (Ev.const e3) (EvX.pos (by omega) (EvX.const rfl ⟨by show (List.set _ _ _).length≤7;rw [List.length_set];omega,by show fc.length≤7;omega,hy,by show 0≤p3;omega,by show p3≤300;omega⟩)))
   | false=>exact EvX.neg (by simp) (EvX.const rfl ⟨by show sz.length≤7;omega,by show fc.length≤7;omega,hy,by show 0≤p2;omega,by show p2≤300;omega⟩)
  ·exact EvX.neg c (EvX.const rfl ⟨by show sz.length≤7;omega,by show fc.length≤7;omega,hy,p0,by show p≤300;omega⟩)
 intro m
 induction m with
 | zero =>
  intro x sz fc p s x0 hm hs hf hy hx7 p0 p1
  exact last x sz fc p s x0 (by omega) hs hf hy hx7 p0 p1
 | succ m ih =>
  intro x sz fc p s x0 hm hs hf hy hx7 p0 p1
  by_cases c:x < n
  case neg=>exact last x sz fc p s x0 c hs hf hy hx7 p0 p1
  refine EvX.succ ?_
  simp only [spec_l1Cur_stats.l0]
  obtain ⟨v,p2,s2,e2,_,_,a3,a4⟩:=pick_some hb p s 50 p0 (by omega) (by omega)
  refine EvX.pos c (Ev.bindX (Ev.const e2) (EvX.pos (by omega) ?_))
  refine row_ev hb n x (by omega) _ fc (by omega) statsT (fun y q t hy2 q0 q1=>?_) 8 0 [] p2 s2 (by omega) (by omega) rfl (by omega) (by omega) (by show p2≤_;omega)
  rw [wrap_add (by omega) (by omega)]
  refine ih (x + 1) _ _ q t (by omega) (by omega) (by simp;omega) (by simp;omega) (fun z hz=>?_) (by omega) q0 (by omega)
  rcases List.mem_append.1 hz with hz | hz
  ·exact hy z hz
  ·obtain rfl:z=y:=by simpa using hz
   exact hy2
theorem stats_ev {code:List Int} (hb:bytesOk code) (p s:Int) (h0:0≤p) (h1:p≤100):EvX (fun k=>spec_l1Cur_stats.f k code p s) statsT:=by
 unfold spec_l1Cur_stats.f
 have run:∀ (n p s:Int),n≤7→0≤p→p≤200→EvX (fun k=>spec_l1Cur_stats.j0 k n code p s) statsT:=fun n p s hn p0 p1=>by
  refine EvX.succ ?_
  simp only [spec_l1Cur_stats.j0]
  exact statsLoop hb n hn 8 0 [] [] p s (by omega) (by omega) rfl rfl (fun y hy=>by cases hy) (by omega) p0 (by omega)
 obtain ⟨v,p2,s2,e2,v0,v1,a3,a4⟩:=pick_some hb p s 4 h0 (by omega) (by omega)
 have hv:=v1 (by omega)
 obtain ⟨b,p3,s3,e3,a5,a6⟩:=one_some hb p2 s2 20 (by omega) (by omega) (by omega)
 refine Ev.bindX (Ev.const e2) (Ev.bindX (Ev.const e3) ?_)
 cases b with
 | true =>
  obtain ⟨u,p4,s4,e4,hu,a7,a8⟩:=among_some hb [0,5,6,7] (by decide) (by decide) p3 s3 (by omega) (by omega)
  refine EvX.pos rfl (Ev.bindX (Ev.const e4) (run u p4 s4 ?_ (by omega) (by omega)))
  simp at hu
  omega
 | false=>exact EvX.neg (by simp) (run _ p3 s3 (by rw [wrap_add (by omega) (by omega)];omega) (by omega) (by omega))
theorem oth_less {l:List Int} {a:Int} (h:a∈l):(oth l a).length + 1≤l.length:=by
 induction l with
 | nil=>cases h
 | cons b l ih =>
  unfold oth at ih ⊢
  by_cases e:b=a
  ·subst e
   rw [List.filter_cons_of_neg (by simp),List.length_cons]
   have:=List.length_filter_le (fun x=>!(x == b)) l
   omega
  ·rw [List.filter_cons_of_pos (by simpa using e),List.length_cons,List.length_cons]
   rcases List.mem_cons.1 h with e2 | h2
   ·exact absurd e2.symm e
   ·have:=ih h2;omega
def orderT (n:Int) (r:List Int × Int × Int):Prop:=r.1.length≤7
theorem order_ev {code:List Int} (hb:bytesOk code) (n p s:Int) (n0:0≤n) (hn:n≤7) (h0:0≤p) (h1:p≤400):EvX (fun k=>spec_l1Cur_order.f k code p s n) (fun r=>r.1.length≤7):=by
 have second:∀ (m:Nat) (left out:List Int) (p s:Int),left.length≤m→out.length + left.length≤7→(n > 0→0 < out.length + left.length)→0≤p→p + left.length≤500→EvX (fun k=>spec_l1Cur_order.l1 k n left out code p s) (fun r=>r.1.length≤7):=by
  have last:∀ (out:List Int) (p s:Int),out.length≤7→(n > 0→0 < out.length)→0≤p→p≤500→EvX (fun k=>spec_l1Cur_order.l1 k n [] out code p s) (fun r=>r.1.length≤7):=by
   intro out p s ho hp p0 p1
   refine EvX.succ ?_
   simp only [spec_l1Cur_order.l1]
   refine EvX.neg (by simp) ?_
   by_cases c:n > 0
   ·obtain ⟨b,p2,s2,e2,a1,a2⟩:=one_some hb p s 20 p0 (by omega) (by omega)
    refine EvX.pos c (Ev.bindX (Ev.const e2) ?_)
    cases b with
    | true =>
     rw [wrap_add (by omega) (by omega)]
     obtain ⟨v,p3,s3,e3,_,_,a3,a4⟩:=pick_some hb p2 s2 (n + 1) (by omega) (by omega) (by omega)
     have:=hp c
     exact EvX.pos rfl (Ev.bindX (Ev.const e3) (EvX.pos (by omega) (EvX.const rfl (by show (List.set _ _ _).length≤7;rw [List.length_set];exact ho))))
    | false=>exact EvX.neg (by simp) (EvX.const rfl ho)
   ·exact EvX.neg c (EvX.const rfl ho)
  intro m
  induction m with
  | zero =>
   intro left out p s hm hl hp p0 p1
   obtain rfl:left=[]:=List.eq_nil_of_length_eq_zero (by omega)
   exact last out p s (by simpa using hl) (by simpa using hp) p0 (by simp at p1;omega)
  | succ m ih =>
   intro left out p s hm hl hp p0 p1
   by_cases c:left.length=0
   ·obtain rfl:left=[]:=List.eq_nil_of_length_eq_zero c
    exact last out p s (by simpa using hl) (by simpa using hp) p0 (by simp at p1;omega)
   refine EvX.succ ?_
   simp only [spec_l1Cur_order.l1]
   obtain ⟨v,p2,s2,e2,v0,v1,a3,a4⟩:=pick_some hb p s (left.length:Int) p0 (by omega) (by omega)
   have hv:=v1 (by omega)
   obtain ⟨i,rfl⟩:∃ i:Nat,v=(i:Int):=⟨v.toNat,by omega⟩
   have hi:i < left.length:=by omega
   refine EvX.pos (by omega) (Ev.bindX (Ev.const e2) (EvX.pos v0 (EvX.pos hv (EvX.pos (by omega) ?_))))
   rw [rd_nat hi]
   have hle:=oth_less (List.getElem_mem hi)
   refine Ev.bindX (without_ev left left[i] (by omega)) (ih (oth left left[i]) (out++[left[i]]) p2 s2 (by omega) (by simp;omega) (fun _=>by simp;omega) (by omega) (by omega))
 have first:∀ (m:Nat) (x:Int) (l:List Int),0≤x→n - x≤m→x≤7→x≤n→(l.length:Int)=x→EvX (fun k=>spec_l1Cur_order.l0 k n l x code p s) (fun r=>r.1.length≤7):=by
  intro m
  induction m with
  | zero =>
   intro x l x0 hm hx7 hxn hl
   refine EvX.succ ?_
   simp only [spec_l1Cur_order.l0]
   exact EvX.neg (by omega) (second 7 l [] p s (by omega) (by simp;omega) (fun h=>by simp;omega) h0 (by omega))
  | succ m ih =>
   intro x l x0 hm hx7 hxn hl
   by_cases c:x < n
   ·refine EvX.succ ?_
    simp only [spec_l1Cur_order.l0]
    rw [wrap_add (by omega) (by omega)]
    exact EvX.pos c (EvX.pos (by omega) (ih (x + 1) _ (by omega) (by omega) (by omega) (by omega) (by simp;omega)))
   ·refine EvX.succ ?_
    simp only [spec_l1Cur_order.l0]
    exact EvX.neg c (second 7 l [] p s (by omega) (by simp;omega) (fun h=>by simp;omega) h0 (by omega))
 unfold spec_l1Cur_order.f
 exact first 8 0 [] (by omega) (by omega) (by omega) n0 rfl
theorem some_ev {code:List Int} (hb:bytesOk code) (c:Int) (hc:c≤8) (p s:Int) (h0:0≤p) (h1:p≤400):EvX (fun k=>spec_l1Cur_subset.f k code p s c 2) (fun r=>r.1.length≤8):=by
 have loop:∀ (m:Nat) (x:Int) (l:List Int) (p s:Int),0≤x→c - x≤m→x≤8→(l.length:Int)≤x→0≤p→p + m≤1000→EvX (fun k=>spec_l1Cur_subset.l0 k c 2 l x code p s) (fun r=>r.1.length≤8):=by
  intro m
  induction m with
  | zero =>
   intro x l p s x0 hm hx8 hl p0 p1
   refine EvX.succ ?_
   simp only [spec_l1Cur_subset.l0]
   exact EvX.neg (by omega) (EvX.const rfl (by show l.length≤8;omega))
  | succ m ih =>
   intro x l p s x0 hm hx8 hl p0 p1
   refine EvX.succ ?_
   simp only [spec_l1Cur_subset.l0]
   by_cases e:x < c
   ·obtain ⟨v,p2,s2,e2,_,_,a3,a4⟩:=pick_some hb p s 2 p0 (by omega) (by omega)
    rw [wrap_add (by omega) (by omega)]
    refine EvX.pos e (Ev.bindX (Ev.const e2) ?_)
    by_cases z:v=0
    ·exact EvX.pos z (EvX.pos (by omega) (ih (x + 1) (l++[x]) p2 s2 (by omega) (by omega) (by omega) (by simp;omega) (by omega) (by omega)))
    ·exact EvX.neg z (ih (x + 1) l p2 s2 (by omega) (by omega) (by omega) (by omega) (by omega) (by omega))
   ·exact EvX.neg e (EvX.const rfl (by show l.length≤8;omega))
 unfold spec_l1Cur_subset.f
 exact loop 9 0 [] p s (by omega) (by omega) (by omega) (by simp) h0 (by omega)
def drawT (r:List Int × (List (List Int)) × List Int):Prop:=r.1.length≤7∧r.2.1.length≤7∧(∀ x∈r.2.1,x.length≤7)∧r.2.2.length≤8
theorem drawCost_ev {code:List Int} (hb:bytesOk code):EvX (fun k=>spec_DrawCostOf.f k code) drawT:=by
 unfold spec_DrawCostOf.f
 obtain ⟨⟨sz,fc,q,t⟩,hr,q1,q2,q3,q4,q5⟩:=stats_ev hb 0 0 (by omega) (by omega)
 replace q1:sz.length≤7:=q1
 replace q4:0≤q:=q4
 replace q5:q≤300:=q5
 obtain ⟨⟨o,i,j⟩,ho,o1⟩:=order_ev hb (sz.length:Int) q t (by omega) (by omega) q4 (by omega)
 refine ⟨(sz,fc,o),Ev.bind (a:=(code,(0:Int),(0:Int))) (Ev.const rfl) (Ev.bind hr (Ev.bind ho (Ev.const rfl))),q1,q2,q3,?_⟩
 replace o1:o.length≤7:=o1
 show o.length≤8;omega
theorem drawBest_ev {code:List Int} (hb:bytesOk code):EvX (fun k=>spec_DrawBestOf.f k code) drawT:=by
 unfold spec_DrawBestOf.f spec_DrawSizeOf.f
 obtain ⟨⟨sz,fc,q,t⟩,hr,q1,q2,q3,q4,q5⟩:=stats_ev hb 0 0 (by omega) (by omega)
 replace q1:sz.length≤7:=q1
 replace q4:0≤q:=q4
 replace q5:q≤300:=q5
 obtain ⟨v,p2,s2,e2,v0,v1,a3,a4⟩:=pick_some hb q t 2 q4 (by omega) (by omega)
 obtain ⟨u,p3,s3,e3,u0,u1,a5,a6⟩:=pick_some hb p2 s2 2 (by omega) (by omega) (by omega)
 have hv:=v1 (by omega)
 have hu:=u1 (by omega)
 have hw:wrap64 (v * u)=v * u∧0≤v * u∧v * u≤1:=by
  rcases (show v=0 ∨ v=1 by omega) with rfl | rfl <;> rcases (show u=0 ∨ u=1 by omega) with rfl | rfl <;> decide +kernel
 obtain ⟨⟨o,i,j⟩,ho,o1⟩:=some_ev hb (wrap64 ((sz.length:Int) + wrap64 (v * u))) (by rw [hw.1,wrap_add (by omega) (by omega)];omega) p3 s3 (by omega) (by omega)
 exact ⟨(sz,fc,o),Ev.bind (a:=(sz,fc,o)) (Ev.bind (a:=(code,(0:Int),(0:Int))) (Ev.const rfl) (Ev.bind hr (Ev.bind (Ev.const e2) (Ev.bind (Ev.const e3) (Ev.bind ho (Ev.const rfl)))))) (Ev.const rfl),q1,q2,q3,o1⟩
/-! ### what the law asks -/
theorem sameInts_ev (l:List Int) (hl:l.length≤1048576):Ev (fun k=>laws_sameInts.f k l l) true:=by
 have loop:=loop_up (n:=l.length) (P:=fun i=>Ev (fun k=>laws_sameInts.l0 k l l (l.length:Int) (i:Int)) true) ?_ ?_
 ·unfold laws_sameInts.f
  exact Ev.pos rfl (loop 0 (Nat.zero_le _))
 ·refine Ev.succ ?_
  simp only [laws_sameInts.l0]
  exact Ev.neg (by omega) (Ev.const rfl)
 ·intro i hi ih
  refine Ev.succ ?_
  simp only [laws_sameInts.l0]
  rw [wrap_add (by omega) (by omega)]
  exact Ev.pos (by omega) (Ev.pos (by omega) (Ev.pos (by omega) (Ev.pos (by omega) (Ev.pos trivial ih))))
theorem setI_app_len {p q:List Int} (hp:∀ x∈p,0≤x∧x≤5) (hq:∀ x∈q,0≤x∧x≤5):(setL (setI (p++q))).length≤(setL (setI p)).length + q.length:=by
 have e:setI (p++q)=q.foldl orB (setI p):=by unfold setI;rw [List.foldl_append]
 rw [e,(orB_foldl q (setI p) (setI_foldl hp).1 hq).2]
 exact foldl_putL_len q _
theorem setI_take {o:List Int} {i:Nat} (hi:i < o.length):setI (o.take (i + 1))=orB (setI (o.take i)) o[i]:=by unfold setI;rw [List.take_succ_eq_append_getElem hi,List.foldl_append];rfl
theorem specIsOrder_ev (sz:List Int) (fc:List (List Int)) (o:List Int) (hs:sz.length≤1048576) (hf:fc.length≤1048576) (hx:∀ x∈fc,x.length≤1048576) (ho:o.length≤1000):Ev (fun k=>spec_IsOrder.f k sz fc o) (tell (GoodS sz fc∧isOrd sz.length o)):=by
 unfold spec_IsOrder.f
 have bad:¬ (GoodS sz fc∧isOrd sz.length o)→Ev (fun k=>spec_IsOrder.j0 k o true) (tell (GoodS sz fc∧isOrd sz.length o)):=fun h=>Ev.succ (by simp only [spec_IsOrder.j0];exact Ev.pos trivial (Ev.const (by rw [tell_no h])))
 by_cases g:GoodS sz fc
 case neg=>exact Ev.bind (specGood_ev sz fc hs hf hx) (Ev.neg (by rw [tell_no g];simp) (bad fun h=>g h.1))
 have n6:=g.n6
 refine Ev.bind (specGood_ev sz fc hs hf hx) (Ev.pos (tell_yes g) ?_)
 by_cases e:o.length=sz.length
 case neg =>
  rw [show ((o.length:Int) != (sz.length:Int))=true from bne_iff_ne.mpr (by omega)]
  exact bad fun h=>e h.2.1
 rw [show ((o.length:Int) != (sz.length:Int))=false from bne_eq_false_iff_eq.mpr (by omega)]
 refine Ev.succ ?_
 simp only [spec_IsOrder.j0]
 refine Ev.neg (by simp) ?_
 have loop:=loop_up (n:=o.length) (P:=fun i=>(∀ j,(hj:j < o.length)→j < i→0≤o[j]∧o[j] < (sz.length:Int))→Ev (fun k=>spec_IsOrder.l0 k o (setL (setI (o.take i))) o (o.length:Int) (i:Int)) (tell (GoodS sz fc∧isOrd sz.length o))) ?_ ?_
 ·have:=loop 0 (Nat.zero_le _) (fun j _ h=>absurd h (Nat.not_lt_zero _))
  rw [List.take_zero,show setL (setI [])=[] from by decide +kernel] at this
  exact this
 ·intro gg
  refine Ev.succ ?_
  simp only [spec_IsOrder.l0]
  refine Ev.neg (by omega) (Ev.const ?_)
  rw [List.take_length]
  congr 1
  have hr:∀ x∈o,0≤x∧x < (sz.length:Int):=fun x hx=>by
   obtain ⟨j,hj,rfl⟩:=List.getElem_of_mem hx
   exact gg j hj hj
  rw [Bool.eq_iff_iff,tell_iff,beq_iff_eq]
  exact ⟨fun h=>⟨g,e,hr,by omega⟩,fun h=>by have:=h.2.2.2;omega⟩
 ·intro i hi ih gg
  refine Ev.succ ?_
  simp only [spec_IsOrder.l0]
  rw [rd_nat hi,wrap_add (by omega) (by omega)]
  refine Ev.pos (by omega) (Ev.pos (by omega) (Ev.pos (by omega) ?_))
  by_cases h1:o[i] < 0
  ·refine Ev.pos h1 (Ev.const ?_)
   rw [tell_no fun h=>by have:=(h.2.2.1 _ (List.getElem_mem hi)).1;omega]
  refine Ev.neg h1 ?_
  by_cases h2:o[i] ≥ (o.length:Int)
  ·refine Ev.pos h2 (Ev.const ?_)
   rw [tell_no fun h=>by have:=(h.2.2.1 _ (List.getElem_mem hi)).2;omega]
  have hp:∀ x∈o.take i,0≤x∧x≤5:=fun x hx=>by
   obtain ⟨j,hj,rfl⟩:=List.getElem_of_mem hx
   have hj2:j < i:=by simp at hj;omega
   have:=gg j (by omega) hj2
   rw [List.getElem_take];omega
  refine Ev.neg h2 (Ev.bind (l7Put_set _ _ (setI_foldl hp).1 (by omega) (by omega)) ?_)
  rw [← setI_take hi]
  refine ih fun j hj hji=>?_
  by_cases c:j=i
  ·subst c;omega
  ·exact gg j hj (by omega)
theorem implIsOrder_ev (sz:List Int) (fc:List (List Int)) (o:List Int) (hs:sz.length≤1048576) (hf:fc.length≤1048576) (ho:o.length≤1000):Ev (fun k=>impl_IsOrder.f k sz fc o) (tell (GoodS sz fc∧isOrd sz.length o)):=by
 unfold impl_IsOrder.f
 by_cases g:GoodS sz fc
 case neg=>exact Ev.bind (implGood_ev sz fc hs hf) (Ev.neg (by rw [tell_no g];simp) (Ev.const (by rw [tell_no fun h=>g h.1])))
 have n6:=g.n6
 have n1:=g.n1
 refine Ev.bind (implGood_ev sz fc hs hf) (Ev.pos (tell_yes g) (Ev.bind (a:=tell (GoodS sz fc∧isOrd sz.length o)) ?_ (Ev.const rfl)))
 unfold impl_Stats_isOrder.f
 have loop:=loop_up (n:=o.length) (P:=fun i=>(∀ j,(hj:j < o.length)→j < i→0≤o[j]∧o[j] < (sz.length:Int))→(setL (setI (o.take i))).length=i→Ev (fun k=>impl_Stats_isOrder.l0 k o (setI (o.take i)) o (o.length:Int) (i:Int) sz fc) (tell (GoodS sz fc∧isOrd sz.length o))) ?_ ?_
 ·exact loop 0 (Nat.zero_le _) (fun j _ h=>absurd h (Nat.not_lt_zero _)) (by rw [List.take_zero];decide +kernel)
 ·intro gg hl
  refine Ev.succ ?_
  simp only [impl_Stats_isOrder.l0]
  refine Ev.neg (by omega) (Ev.const ?_)
  rw [List.take_length] at hl
  congr 1
  have hr:∀ x∈o,0≤x∧x < (sz.length:Int):=fun x hx=>by
   obtain ⟨j,hj,rfl⟩:=List.getElem_of_mem hx
   exact gg j hj hj
  rw [Bool.eq_iff_iff,tell_iff,beq_iff_eq]
  exact ⟨fun h=>⟨g,by omega,hr,by omega⟩,fun h=>by have:=h.2.1;omega⟩
 ·intro i hi ih gg hl
  refine Ev.succ ?_
  simp only [impl_Stats_isOrder.l0]
  rw [rd_nat hi,wrap_add (a:=(i:Int)) (by omega) (by omega),within_some,wrap_id (a:=(sz.length:Int) - 1) (by omega) (by omega)]
  refine Ev.pos (by omega) (Ev.pos (by omega) (Ev.pos (by omega) ?_))
  by_cases h1:0≤o[i]∧o[i]≤(sz.length:Int) - 1
  case neg =>
   refine Ev.bind (Ev.const rfl) (Ev.neg (by simpa using h1) (Ev.const ?_))
   rw [tell_no fun h=>by have:=h.2.2.1 _ (List.getElem_mem hi);omega]
  have hp:∀ x∈o.take i,0≤x∧x≤5:=fun x hx=>by
   obtain ⟨j,hj,rfl⟩:=List.getElem_of_mem hx
   have hj2:j < i:=by simp at hj;omega
   have:=gg j (by omega) hj2
   rw [List.getElem_take];omega
  have t1:=(setI_foldl hp).1
  refine Ev.bind (Ev.const rfl) (Ev.pos (decide_eq_true h1) (Ev.pos (by omega) (Ev.bind (a:=hasB (setI (o.take i)) (bitS o[i])) (Ev.const rfl) ?_)))
  rcases orB_cases t1 h1.1 (by omega) with ⟨_,e,hb⟩ | ⟨_,_,e,hb⟩
  ·refine Ev.pos hb (Ev.const ?_)
   rw [tell_no]
   rintro ⟨_,q1,q2,q3⟩
   have hd:∀ x∈o.drop (i + 1),0≤x∧x≤5:=fun x hx=>by have:=q2 x (List.mem_of_mem_drop hx);omega
   have hp1:∀ x∈o.take (i + 1),0≤x∧x≤5:=fun x hx=>by have:=q2 x (List.mem_of_mem_take hx);omega
   have:=setI_app_len hp1 hd
   rw [List.take_append_drop,setI_take hi,e,hl,q3,List.length_drop] at this
   omega
  ·refine Ev.neg (by rw [hb];simp) ?_
   have hor:Go.bits .or .i64 (setI (o.take i)) (shl .i64 1 o[i])=setI (o.take (i + 1)):=(setI_take hi).symm
   rw [hor]
   refine ih (fun j hj hji=>?_) (by rw [setI_take hi,e,hl])
   by_cases c:j=i
   ·subst c;omega
   ·exact gg j hj (by omega)
noncomputable def costR (sz : List Int) (fc : List (List Int)) (o : List Int) : Int × Bool := if tell (GoodS sz fc ∧ isOrd sz.length o) = true then (cost sz fc o, true) else (0, false)
theorem specCostOf_ev (sz:List Int) (fc:List (List Int)) (o:List Int) (hs:sz.length≤1048576) (hf:fc.length≤1048576) (hx:∀ x∈fc,x.length≤1048576) (ho:o.length≤1000):Ev (fun k=>spec_CostOf.f k sz fc o) (costR sz fc o):=by
 unfold spec_CostOf.f costR
 refine Ev.bind (specIsOrder_ev sz fc o hs hf hx ho) ?_
 by_cases h:GoodS sz fc∧isOrd sz.length o
 ·rw [tell_yes h,if_pos rfl]
  exact Ev.pos rfl (Ev.bind (specCost_ev h.1 h.2.2.1 ho) (Ev.const rfl))
 ·rw [tell_no h,if_neg (by simp)]
  exact Ev.neg (by simp) (Ev.const rfl)
theorem implCostOf_ev (sz:List Int) (fc:List (List Int)) (o:List Int) (hs:sz.length≤1048576) (hf:fc.length≤1048576) (ho:o.length≤1000):Ev (fun k=>impl_CostOf.f k sz fc o) (costR sz fc o):=by
 unfold impl_CostOf.f costR
 refine Ev.bind (implIsOrder_ev sz fc o hs hf ho) ?_
 by_cases h:GoodS sz fc∧isOrd sz.length o
 case neg =>
  rw [tell_no h,if_neg (by simp)]
  exact Ev.neg (by simp) (Ev.const rfl)
 rw [tell_yes h,if_pos rfl]
 obtain ⟨g,q1,q2,q3⟩:=h
 have n6:=g.n6
 have n1:=g.n1
 refine Ev.pos rfl ?_
 have loop:=loop_up (n:=o.length) (P:=fun i=>1≤i→Ev (fun k=>impl_CostOf.l0 k o (cst sz fc o i) ((i:Int) + 1) sz fc) (cost sz fc o,true)) ?_ ?_
 ·exact loop 1 (by omega) (by omega)
 ·intro _
  refine Ev.succ ?_
  simp only [impl_CostOf.l0]
  exact Ev.neg (by omega) (Ev.const rfl)
 ·intro i hi ih h1
  have hp:∀ x∈o.take (i + 1),0≤x∧x < (sz.length:Int):=fun x hx=>q2 x (List.mem_of_mem_take hx)
  obtain ⟨s2,s3⟩:=setI_set n6 hp
  have ih':=ih (by omega)
  simp only [cst] at ih'
  rw [if_pos (by omega)] at ih'
  refine Ev.succ ?_
  simp only [impl_CostOf.l0]
  rw [show ((i:Int) + 1).toNat=i + 1 by omega,wrap_add (a:=(i:Int) + 1) (by omega) (by omega)]
  refine Ev.pos (by omega) (Ev.pos (by omega) (Ev.bind (setOf_ev _ (by simp;omega) (fun x hx=>(hp x hx).1)) (Ev.bind (implSize_ev g s2 s3) ?_)))
  exact ih'
noncomputable def sizeR (sz : List Int) (fc : List (List Int)) (l : List Int) : Int × Bool := if tell (GoodS sz fc ∧ ris l (sz.length : Int) ∧ l.length ≠ 0) = true then (sizeV sz fc l, true) else (0, false)
theorem areSome_ev (sz:List Int) (fc:List (List Int)) (l:List Int) (hl:l.length≤1048576):Ev (fun k=>impl_Stats_areSome.f k sz fc l) (tell (ris l (sz.length:Int)∧l.length ≠ 0)):=by
 unfold impl_Stats_areSome.f impl_isPart.f
 by_cases c:0 < l.length
 ·refine Ev.bind (a:=tell (ris l (sz.length:Int))) (Ev.pos (by omega) (Ev.bind (areRising_ev l _ (by omega)) (Ev.const rfl))) (Ev.const ?_)
  congr 1
  rw [Bool.eq_iff_iff,tell_iff,tell_iff]
  exact ⟨fun h=>⟨h,by omega⟩,fun h=>h.1⟩
 ·refine Ev.bind (a:=false) (Ev.neg (by omega) (Ev.const rfl)) (Ev.const ?_)
  rw [tell_no fun h=>h.2 (by omega)]
theorem srt_ris {sz:List Int} {l:List Int} (r:ris l (sz.length:Int)) (n6:sz.length≤6):isSet (setI l)∧setL (setI l)=l∧Srt sz (setL (setI l)):=by
 obtain ⟨i1,i2⟩:=setI_ok r (by omega)
 refine ⟨i1,i2,setL_pw _,fun x hx=>?_⟩
 rw [i2] at hx
 exact ris_mem r x hx
theorem specSizeOf_ev (sz:List Int) (fc:List (List Int)) (l:List Int) (hs:sz.length≤1048576) (hf:fc.length≤1048576) (hx:∀ x∈fc,x.length≤1048576) (hl:l.length≤1048576):Ev (fun k=>spec_SizeOf.f k sz fc l) (sizeR sz fc l):=by
 unfold spec_SizeOf.f sizeR
 by_cases g:GoodS sz fc
 case neg =>
  rw [tell_no fun h=>g h.1,if_neg (by simp)]
  exact Ev.bind (specGood_ev sz fc hs hf hx) (Ev.neg (by rw [tell_no g];simp) (Ev.const rfl))
 refine Ev.bind (specGood_ev sz fc hs hf hx) (Ev.pos (tell_yes g) (Ev.bind (l1Some_ev l _ (by omega)) ?_))
 by_cases r:ris l (sz.length:Int)
 case neg =>
  rw [tell_no (p:=GoodS sz fc∧ris l (sz.length:Int)∧l.length ≠ 0) fun h=>r h.2.1,if_neg (by simp),tell_no r]
  exact Ev.neg (by simp) (Ev.const rfl)
 refine Ev.pos (tell_yes r) ?_
 by_cases e:l.length=0
 ·rw [tell_no fun h=>h.2.2 e,if_neg (by simp)]
  exact Ev.pos (by omega) (Ev.const rfl)
 rw [tell_yes ⟨g,r,e⟩,if_pos rfl]
 obtain ⟨i1,i2,i3⟩:=srt_ris r g.n6
 rw [i2] at i3
 exact Ev.neg (by omega) (Ev.bind (specSize_ev g i3 (by rw [← i2];exact setL_len _)) (Ev.const rfl))
theorem implSizeOf_ev (sz:List Int) (fc:List (List Int)) (l:List Int) (hs:sz.length≤1048576) (hf:fc.length≤1048576) (hl:l.length≤1048576):Ev (fun k=>impl_SizeOf.f k sz fc l) (sizeR sz fc l):=by
 unfold impl_SizeOf.f sizeR
 have bad:Ev (fun k=>impl_SizeOf.j0 k l true sz fc) (0,false):=Ev.succ (by simp only [impl_SizeOf.j0];exact Ev.pos trivial (Ev.const rfl))
 by_cases g:GoodS sz fc
 case neg =>
  rw [tell_no fun h=>g h.1,if_neg (by simp)]
  exact Ev.bind (implGood_ev sz fc hs hf) (Ev.neg (by rw [tell_no g];simp) bad)
 refine Ev.bind (implGood_ev sz fc hs hf) (Ev.pos (tell_yes g) (Ev.bind (areSome_ev sz fc l hl) ?_))
 by_cases r:ris l (sz.length:Int)∧l.length ≠ 0
 case neg =>
  rw [tell_no r,tell_no fun h=>r h.2,if_neg (by simp)]
  exact bad
 rw [tell_yes r,tell_yes ⟨g,r⟩,if_pos rfl]
 obtain ⟨i1,i2,i3⟩:=srt_ris r.1 g.n6
 have hsz:=implSize_ev g i1 i3
 rw [i2] at hsz
 refine Ev.succ ?_
 simp only [impl_SizeOf.j0]
 exact Ev.neg (by simp) (Ev.bind (setOf_ev l (by omega) (fun x hx=>(ris_mem r.1 x hx).1)) (Ev.bind hsz (Ev.const rfl)))
/-- The best order of all tables, both told. -/
theorem best_val (sz:List Int) (fc:List (List Int)) (hs:sz.length≤1048576) (hf:fc.length≤1048576) (hx:∀ x∈fc,x.length≤1048576) (g:GoodS sz fc) :
  ∃ o:List Int,Ev (fun k=>spec_BestOrder.f k sz fc) (o,cost sz fc o,true)∧Ev (fun k=>impl_BestOrder.f k sz fc) (o,cost sz fc o,true)∧isOrd sz.length o∧∀ o',isOrd sz.length o'→cost sz fc o≤cost sz fc o':=by
 have n6:=g.n6
 have n1:=g.n1
 obtain ⟨w1,w2,w3⟩:=whole_ok n6
 obtain ⟨F,hF⟩:∃ F,F=wrap64 ((shl .i64 1 (sz.length:Int)) - 1):=⟨_,rfl⟩
 rw [← hF] at w1 w2 w3
 have hul:(upTo sz.length).length=sz.length:=by simp [upTo]
 have hsrt:Srt sz (setL F):=⟨setL_pw _,fun x hx=>by
  rw [w3] at hx
  simp only [upTo,List.mem_map,List.mem_range] at hx
  obtain ⟨k,hk,rfl⟩:=hx
  omega⟩
 have hris:ris (upTo sz.length) (sz.length:Int):=fun i hi=>by
  simp only [upTo,List.getElem_map,List.getElem_range]
  rw [hul] at hi
  exact ⟨by omega,by omega,fun _=>by omega⟩
 have hFI:setI (upTo sz.length)=F:=by rw [← w3];exact setI_setL w2
 have hl:(setL F).length=sz.length:=by rw [w3,hul]
 have hsb:=specBest_ev g 6 F w2 hsrt (by omega) (setL_len _)
 have hib:=implBest_ev g 6 F w2 hsrt (by omega) (setL_len _)
 have hob:=bst_ok sz fc 6 F w2 (by omega) (setL_len _)
 have hol:=hob.len
 have h6:=setL_len F
 have hord:=(ord_ok n6 w2 w3).2 hob
 refine ⟨bst sz fc 6 F,?_,?_,hord,fun o' ho'=>best_least g 6 F o' w2 hsrt (by omega) (setL_len _) ((ord_ok n6 w2 w3).1 ho')⟩
 ·unfold spec_BestOrder.f
  refine Ev.bind (specGood_ev sz fc hs hf hx) (Ev.pos (tell_yes g) (specAll_ev sz fc _ hs ?_))
  unfold spec_BestOf.f
  refine Ev.bind (specGood_ev sz fc hs hf hx) (Ev.pos (tell_yes g) (Ev.bind (l1Some_ev _ _ (by omega)) (Ev.pos (tell_yes hris) ?_)))
  rw [show (((upTo sz.length).length:Int) == 0)=false from beq_eq_false_iff_ne.mpr (by omega)]
  rw [w3] at hsb
  refine Ev.succ ?_
  simp only [spec_BestOf.j0]
  exact Ev.neg (by simp) (Ev.bind hsb (Ev.bind (specCost_ev g (ok_range hsrt hob) (by omega)) (Ev.const rfl)))
 ·unfold impl_BestOrder.f
  refine Ev.bind (implGood_ev sz fc hs hf) (Ev.pos (tell_yes g) (Ev.bind (Ev.const w1) (Ev.bind (setL_ev _ w2.1 w2.2) (Ev.bind (a:=(bst sz fc 6 F,cost sz fc (bst sz fc 6 F),true)) ?_ (Ev.const rfl)))))
  rw [w3]
  unfold impl_BestOf.f
  refine Ev.bind (implGood_ev sz fc hs hf) (Ev.pos (tell_yes g) (Ev.bind (areSome_ev sz fc _ (by omega)) ?_))
  rw [tell_yes ⟨hris,by omega⟩]
  refine Ev.succ ?_
  simp only [impl_BestOf.j0]
  refine Ev.neg (by simp) (Ev.bind (setOf_ev _ (by omega) (fun x hx=>(ris_mem hris x hx).1)) ?_)
  rw [hFI]
  exact Ev.bind hib (Ev.const rfl)
theorem best_none (sz:List Int) (fc:List (List Int)) (hs:sz.length≤1048576) (hf:fc.length≤1048576) (hx:∀ x∈fc,x.length≤1048576) (g:¬ GoodS sz fc) :
  Ev (fun k=>spec_BestOrder.f k sz fc) ([],0,false)∧Ev (fun k=>impl_BestOrder.f k sz fc) ([],0,false):=by
 unfold spec_BestOrder.f impl_BestOrder.f
 exact ⟨Ev.bind (specGood_ev sz fc hs hf hx) (Ev.neg (by rw [tell_no g];simp) (Ev.const rfl)),Ev.bind (implGood_ev sz fc hs hf) (Ev.neg (by rw [tell_no g];simp) (Ev.const rfl))⟩
/-- What ends the law: some tables of other statistics. -/
def lastJ (k:Nat) (c:List Int):Option Bool:=(spec_DrawBestOf.f k c).bind fun bt479=>((impl_BestOf.f k bt479.1 bt479.2.1 bt479.2.2).bind fun bt489=>((spec_BestOf.f k bt479.1 bt479.2.1 bt479.2.2).bind fun bt494=>((impl_SizeOf.f k bt479.1 bt479.2.1 bt479.2.2).bind fun bt499=>((spec_SizeOf.f k bt479.1 bt479.2.1 bt479.2.2).bind fun bt501=>(if (bt489.2.2 == bt494.2.2)=true then (if bt489.2.1=bt494.2.1 then ((laws_sameInts.f k bt489.1 bt494.1).bind fun t503=>(if t503=true then (if (bt499.2 == bt501.2)=true then (some (bt499.1 == bt501.1)) else (none)) else (none))) else (none)) else (none))))))
theorem last_ev {c:List Int} (hb:bytesOk c):Ev (fun k=>lastJ k c) true:=by
 unfold lastJ
 obtain ⟨⟨sz,fc,l⟩,hr,q1,q2,q3,q4⟩:=drawBest_ev hb
 replace q1:sz.length≤7:=q1
 replace q2:fc.length≤7:=q2
 replace q3:∀ x∈fc,x.length≤7:=q3
 replace q4:l.length≤8:=q4
 have hx:∀ x∈fc,x.length≤1048576:=fun x h=>by have:=q3 x h;omega
 obtain ⟨o,e1,e2,e3⟩:=specBestOf_ev sz fc l (by omega) (by omega) hx (by omega)
 have z1:=implSizeOf_ev sz fc l (by omega) (by omega) (by omega)
 have z2:=specSizeOf_ev sz fc l (by omega) (by omega) hx (by omega)
 exact Ev.bind hr (Ev.bind e2 (Ev.bind e1 (Ev.bind z1 (Ev.bind z2 (Ev.pos (by simp) (Ev.pos rfl (Ev.bind (sameInts_ev _ e3) (Ev.pos rfl (Ev.pos (by simp) (Ev.const (by simp)))))))))))
theorem swaps_ev {c:List Int} (hb:bytesOk c) (sz:List Int) (fc:List (List Int)) (hf:fc.length≤7) (g:GoodS sz fc) (o:List Int) (ho:isOrd sz.length o) (hm:∀ o',isOrd sz.length o'→cost sz fc o≤cost sz fc o') :
  Ev (fun k=>laws_FnOrdered.l0 k c o (cost sz fc o) 0 sz fc) true:=by
 have n6:=g.n6
 have n1:=g.n1
 have hol:=ho.1
 have loop:=loop_up (n:=o.length - 1) (P:=fun i=>Ev (fun k=>laws_FnOrdered.l0 k c o (cost sz fc o) (i:Int) sz fc) true) ?_ ?_
 ·exact loop 0 (Nat.zero_le _)
 ·refine Ev.succ ?_
  simp only [laws_FnOrdered.l0]
  rw [wrap_add (by omega) (by omega)]
  exact Ev.neg (by omega) (last_ev hb)
 ·intro i hi ih
  refine Ev.succ ?_
  simp only [laws_FnOrdered.l0,List.nil_append]
  rw [wrap_add (by omega) (by omega)]
  have h0:i < o.length:=by omega
  have h1:i + 1 < o.length:=by omega
  have e0:rd o (i:Int)=o[i]:=rd_nat h0
  have e1:rd o ((i:Int) + 1)=o[i + 1]:=rd_nat h1
  rw [e0,e1,show ((i:Int) + 1).toNat=i + 1 by omega,show ((i:Int)).toNat=i by omega]
  have hs:=ord_swap n6 ho h0 h1
  have hc:=implCostOf_ev sz fc ((o.set i o[i + 1]).set (i + 1) o[i]) (by omega) (by omega) (by simp;omega)
  rw [show costR sz fc ((o.set i o[i + 1]).set (i + 1) o[i])=(cost sz fc ((o.set i o[i + 1]).set (i + 1) o[i]),true) from by unfold costR;rw [tell_yes ⟨g,hs⟩,if_pos rfl]] at hc
  have hge:=hm _ hs
  refine Ev.pos (by omega) (Ev.bind (Ev.const rfl) (Ev.pos (by simp;omega) (Ev.bind (Ev.const rfl) (Ev.pos (by omega) (Ev.pos (by omega) (Ev.pos (by rw [List.nil_append];omega) (Ev.pos (by omega) (Ev.pos (by rw [List.nil_append];omega) (Ev.bind hc (Ev.pos rfl (Ev.neg ?_ ih)))))))))))
  show ¬ cost sz fc ((o.set i o[i + 1]).set (i + 1) o[i]) < cost sz fc o
  omega
theorem FnOrdered : laws_FnOrdered.Pure:=by
 intro l0 l1 a0 a1 a2 b0 b1 b2
 by_cases h:wrap64 ((l0.length:Int) + (l1.length:Int)) > 1048576
 ·exact ⟨0,if_pos h⟩
 have hm:l0.length≤1048576∧l1.length≤1048576:=by
  rw [wrap_id (by omega) (by omega)] at h
  omega
 have h0:=bytes_wf (by omega) a2
 have h1:=bytes_wf (by omega) b2
 refine Ev.rounds ?_
 unfold laws_FnOrdered.f
 refine Ev.neg h ?_
 obtain ⟨⟨sz,fc,o⟩,hr,q1,q2,q3,q4⟩:=drawCost_ev h0
 replace q1:sz.length≤7:=q1
 replace q2:fc.length≤7:=q2
 replace q3:∀ x∈fc,x.length≤7:=q3
 replace q4:o.length≤8:=q4
 have hx:∀ x∈fc,x.length≤1048576:=fun x h=>by have:=q3 x h;omega
 have c1:=implCostOf_ev sz fc o (by omega) (by omega) (by omega)
 have c2:=specCostOf_ev sz fc o (by omega) (by omega) hx (by omega)
 have g1:=implGood_ev sz fc (by omega) (by omega)
 have g2:=specGood_ev sz fc (by omega) (by omega) hx
 have i1:=implIsOrder_ev sz fc o (by omega) (by omega) (by omega)
 have hcr:(costR sz fc o).2=tell (GoodS sz fc∧isOrd sz.length o):=by
  unfold costR;cases tell (GoodS sz fc∧isOrd sz.length o) <;> simp
 have hl:=last_ev h1
 by_cases g:GoodS sz fc
 case neg =>
  obtain ⟨s1,s2⟩:=best_none sz fc (by omega) (by omega) hx g
  refine Ev.bind hr (Ev.bind c1 (Ev.bind c2 (Ev.bind s2 (Ev.bind s1 (Ev.neg (by simp) (Ev.pos rfl (Ev.neg (by simp) (Ev.pos rfl (Ev.bind (sameInts_ev _ (by simp)) (Ev.pos rfl (Ev.bind g1 (Ev.bind g2 (Ev.neg (by simp) (Ev.bind i1 (Ev.neg (by rw [hcr];simp) (Ev.neg (by simp) ?_))))))))))))))))
  exact hl
 obtain ⟨b,s1,s2,s3,s4⟩:=best_val sz fc (by omega) (by omega) hx g
 have hb1:=s3.1
 have cb:=implCostOf_ev sz fc b (by omega) (by omega) (by omega)
 rw [show costR sz fc b=(cost sz fc b,true) from by unfold costR;rw [tell_yes ⟨g,s3⟩,if_pos rfl]] at cb
 have hsw:=swaps_ev h1 sz fc q2 g b s3 s4
 refine Ev.bind hr (Ev.bind c1 (Ev.bind c2 (Ev.bind s2 (Ev.bind s1 (Ev.neg (by simp) (Ev.pos rfl (Ev.neg (by simp) (Ev.pos rfl (Ev.bind (sameInts_ev _ (by show b.length≤_;omega)) (Ev.pos rfl (Ev.bind g1 (Ev.bind g2 (Ev.neg (by simp) (Ev.bind i1 (Ev.neg (by rw [hcr];simp) (Ev.pos rfl (Ev.bind cb (Ev.pos rfl (Ev.pos rfl ?_)))))))))))))))))))
 by_cases h2:GoodS sz fc∧isOrd sz.length o
 ·have e2:costR sz fc o=(cost sz fc o,true):=by unfold costR;rw [tell_yes h2,if_pos rfl]
  have:=s4 o h2.2
  refine Ev.pos (by rw [e2]) (Ev.neg ?_ hsw)
  rw [e2]
  show ¬ cost sz fc o < cost sz fc b
  omega
 ·refine Ev.neg (by rw [hcr,tell_no h2];simp) hsw
end Go.Proofs.Ytecebaeifmddnaa.Pure
