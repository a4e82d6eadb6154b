/- What IsNormal's law comes to, in numbers and lists alone: the program tells what the reference tells, whatever is asked. -/
import Derived.Test.YtnkdpagkmljbnaaPFnExactIsNormalx4
import Derived.Test.YtnkdpagkmljbnaaEv
namespace Go.Proofs.Ytnkdpagkmljbnaa.Pure
open Go.RowKit Go.Proofs.Ytnkdpagkmljbnaa.PFnExactIsNormal Go.Proofs.YtnkdpagkmljbnaaW.PrintWords Go.Proofs.YtnkdpagkmljbnaaW.PrintLast Go.Proofs.YtnkdpagkmljbnaaW.PrintMore
set_option linter.unusedVariables false
set_option linter.unusedSimpArgs false

/-- The numbers of a set, rising. -/
def setL (s:Int):List Int:=((List.range 6).filter (fun k=>s.toNat.testBit k)).map (fun (k:Nat)=>(k:Int))
theorem setL_mem {s x:Int} (h:x∈setL s):0≤x∧x≤5:=by
 simp only [setL,List.mem_map,List.mem_filter,List.mem_range] at h
 obtain ⟨k,⟨hk,_⟩,rfl⟩:=h
 omega
theorem setL_some (s:Int) (h0:0≤s) (h1:s < 64):impl_set_list.f 8 s=some (setL s):=by
 have key:∀ n:Fin 64,impl_set_list.f 8 (n.val:Int)=some (setL (n.val:Int)):=by decide +kernel
 have:=key ⟨s.toNat,by omega⟩
 simpa [Int.toNat_of_nonneg h0] using this
theorem setL_ev (s:Int) (h0:0≤s) (h1:s < 64):Ev (fun k=>impl_set_list.f k s) (setL s):=Ev.of (fun k=>impl_set_list.mono s k) (setL_some s h0 h1)
/-- A number put to its place, once. -/
def putL (l:List Int) (n:Int):List Int:=if l.contains n then l else l.take (l.takeWhile (fun x=>decide (x < n))).length++n :: l.drop (l.takeWhile (fun x=>decide (x < n))).length
def orB (s n:Int):Int:=Go.bits .or .i64 s (shl .i64 1 n)
def isSet (s:Int):Prop:=0≤s∧s < 64
theorem fin_set {s:Int} (h:isSet s):∃ m:Fin 64,s=(m.val:Int):=⟨⟨s.toNat,by have:=h.1;have:=h.2;omega⟩,by have:=h.1;simp;omega⟩
theorem fin_num {n:Int} (h0:0≤n) (h5:n≤5):∃ m:Fin 6,n=(m.val:Int):=⟨⟨n.toNat,by omega⟩,by simp;omega⟩
theorem orB_ok {s n:Int} (h:isSet s) (h0:0≤n) (h5:n≤5):isSet (orB s n)∧setL (orB s n)=putL (setL s) n:=by
 obtain ⟨a,rfl⟩:=fin_set h
 obtain ⟨b,rfl⟩:=fin_num h0 h5
 have key:∀ a:Fin 64,∀ b:Fin 6,(0≤orB (a.val:Int) (b.val:Int)∧orB (a.val:Int) (b.val:Int) < 64)∧setL (orB (a.val:Int) (b.val:Int))=putL (setL (a.val:Int)) (b.val:Int):=by decide +kernel
 exact key a b
theorem setL_nil {s:Int} (h:isSet s):s=0↔setL s=[]:=by
 obtain ⟨a,rfl⟩:=fin_set h
 have key:∀ a:Fin 64,(a.val:Int)=0↔setL (a.val:Int)=[]:=by decide +kernel
 exact key a
theorem setL_len (s:Int):(setL s).length≤6:=by
 unfold setL
 rw [List.length_map]
 exact Nat.le_trans (List.length_filter_le _ _) (by simp)
theorem putL_len (l:List Int) (n:Int):(putL l n).length≤l.length + 1:=by
 unfold putL
 split
 ·omega
 ·simp;omega

def hasB (a b:Int):Bool:=Go.bits .and .i64 a b == b
def orS (a b:Int):Int:=Go.bits .or .i64 a b
theorem mem_setL {m:Fin 64} {x:Int}:x∈setL (m.val:Int)↔∃ k:Fin 6,x=(k.val:Int)∧m.val.testBit k.val=true:=by
 simp only [setL,List.mem_map,List.mem_filter,List.mem_range,Int.toNat_natCast]
 constructor
 ·rintro ⟨k,⟨hk,hb⟩,rfl⟩;exact ⟨⟨k,hk⟩,rfl,hb⟩
 ·rintro ⟨k,rfl,hb⟩;exact ⟨k.val,⟨k.isLt,hb⟩,rfl⟩
theorem orS_set {a b:Int} (ha:isSet a) (hb:isSet b):isSet (orS a b):=by
 obtain ⟨a,rfl⟩:=fin_set ha
 obtain ⟨b,rfl⟩:=fin_set hb
 have key:∀ a b:Fin 64,0≤orS (a.val:Int) (b.val:Int)∧orS (a.val:Int) (b.val:Int) < 64:=by decide +kernel
 exact key a b
theorem hasB_iff {a b:Int} (ha:isSet a) (hb:isSet b):hasB a b=(setL b).all (fun x=>(setL a).contains x):=by
 obtain ⟨a,rfl⟩:=fin_set ha
 obtain ⟨b,rfl⟩:=fin_set hb
 have key:∀ a b:Fin 64,hasB (a.val:Int) (b.val:Int)=(setL (b.val:Int)).all (fun x=>(setL (a.val:Int)).contains x):=by decide +kernel
 exact key a b
theorem orS_fold {a b:Int} (ha:isSet a) (hb:isSet b):setL (orS a b)=(setL b).foldl putL (setL a):=by
 obtain ⟨a,rfl⟩:=fin_set ha
 obtain ⟨b,rfl⟩:=fin_set hb
 have key:∀ a b:Fin 64,setL (orS (a.val:Int) (b.val:Int))=(setL (b.val:Int)).foldl putL (setL (a.val:Int)):=by decide +kernel
 exact key a b
theorem orS_len {a b:Int} (ha:isSet a) (hb:isSet b):(setL a).length≤(setL (orS a b)).length∧((setL a).length=(setL (orS a b)).length↔orS a b=a):=by
 obtain ⟨a,rfl⟩:=fin_set ha
 obtain ⟨b,rfl⟩:=fin_set hb
 have key:∀ a b:Fin 64,(setL (a.val:Int)).length≤(setL (orS (a.val:Int) (b.val:Int))).length∧((setL (a.val:Int)).length=(setL (orS (a.val:Int) (b.val:Int))).length↔orS (a.val:Int) (b.val:Int)=(a.val:Int)):=by decide +kernel
 exact key a b
theorem setL_inj {a b:Int} (ha:isSet a) (hb:isSet b) (h:setL a=setL b):a=b:=by
 obtain ⟨a,rfl⟩:=fin_set ha
 obtain ⟨b,rfl⟩:=fin_set hb
 have key:∀ a b:Fin 64,setL (a.val:Int)=setL (b.val:Int)→(a.val:Int)=(b.val:Int):=by decide +kernel
 exact key a b h
/-- The set of a list. -/
def setI (l:List Int):Int:=l.foldl orB 0
theorem orB_foldl : ∀ (l:List Int) (s:Int),isSet s→(∀ x∈l,0≤x∧x≤5)→isSet (l.foldl orB s)∧setL (l.foldl orB s)=l.foldl putL (setL s)
 | [],s,hs,_=>⟨hs,rfl⟩
 | n :: l,s,hs,h=>by
  obtain ⟨h0,h5⟩:=h n List.mem_cons_self
  obtain ⟨k1,k2⟩:=orB_ok hs h0 h5
  obtain ⟨j1,j2⟩:=orB_foldl l (orB s n) k1 (fun x hx=>h x (List.mem_cons_of_mem _ hx))
  exact ⟨j1,by rw [List.foldl_cons,j2,k2];rfl⟩
/-- Rising numbers of so many. -/
def ris (l:List Int) (c:Int):Prop:=∀ i,(hi:i < l.length)→0≤l[i]∧l[i] < c∧(0 < i→l[i - 1]'(by omega) < l[i])
theorem ris_tail {a:Int} {l:List Int} {c:Int} (h:ris (a :: l) c):ris l c:=by
 intro i hi
 have:=h (i + 1) (by simp;omega)
 simp only [List.getElem_cons_succ,Nat.add_sub_cancel] at this
 refine ⟨this.1,this.2.1,fun hp=>?_⟩
 have h3:=this.2.2 (by omega)
 obtain ⟨j,rfl⟩:∃ j,i=j + 1:=⟨i - 1,by omega⟩
 simpa using h3
theorem ris_mem {l:List Int} {c:Int} (h:ris l c):∀ x∈l,0≤x∧x < c:=by
 intro x hx
 obtain ⟨i,hi,rfl⟩:=List.getElem_of_mem hx
 exact ⟨(h i hi).1,(h i hi).2.1⟩
theorem ris_lt : ∀ {l:List Int} {a c:Int},ris (a :: l) c→∀ x∈l,a < x
 | [],_,_,_=>fun x hx=>by cases hx
 | b :: l,a,c,h=>by
  have hab:a < b:=by have:=(h 1 (by simp)).2.2 (by omega);simpa using this
  intro x hx
  rcases List.mem_cons.1 hx with rfl | hx
  ·exact hab
  ·exact Int.lt_trans hab (ris_lt (ris_tail h) x hx)
theorem ris_zero {c:Int} (h:c≤0) {l:List Int} (hl:ris l c):l=[]:=by
 cases l with
 | nil=>rfl
 | cons a l=>have:=hl 0 (by simp);simp at this;omega
/-- Numbers put to their places behind those that are less: at the end. -/
theorem putL_end (p:List Int) (n:Int) (h:∀ x∈p,x < n):putL p n=p++[n]:=by
 have hc:p.contains n=false:=by
  rw [Bool.eq_false_iff]
  intro hn
  have:=h n (by simpa using hn)
  omega
 have ht:p.takeWhile (fun x=>decide (x < n))=p:=by
  clear hc
  induction p with
  | nil=>rfl
  | cons a p ih=>rw [List.takeWhile_cons,if_pos (by simpa using h a List.mem_cons_self),ih (fun x hx=>h x (List.mem_cons_of_mem _ hx))]
 unfold putL
 rw [hc,ht,List.take_of_length_le (Nat.le_refl _),List.drop_of_length_le (Nat.le_refl _)]
 rfl
theorem foldl_putL : ∀ (l p:List Int) (c:Int),ris l c→(∀ x∈p,∀ y∈l,x < y)→l.foldl putL p=p++l
 | [],p,_,_,_=>by simp
 | n :: l,p,c,h,hp=>by
  rw [List.foldl_cons,putL_end p n (fun x hx=>hp x hx n List.mem_cons_self),foldl_putL l (p++[n]) c (ris_tail h) ?_,List.append_assoc]
  ·rfl
  ·intro x hx y hy
   rcases List.mem_append.1 hx with hx | hx
   ·exact hp x hx y (List.mem_cons_of_mem _ hy)
   ·obtain rfl:x=n:=by simpa using hx
    exact ris_lt h y hy
theorem setI_ok {l:List Int} {c:Int} (h:ris l c) (hc:c≤6):isSet (setI l)∧setL (setI l)=l:=by
 obtain ⟨k1,k2⟩:=orB_foldl l 0 ⟨by omega,by omega⟩ (fun x hx=>by have:=ris_mem h x hx;omega)
 refine ⟨k1,?_⟩
 unfold setI
 rw [k2,show setL 0=[] from by decide +kernel,foldl_putL l [] c h (fun x hx=>by cases hx)]
 rfl
theorem ris_len {l:List Int} {c:Int} (h:ris l c) (hc:c≤6):l.length≤6:=by
 rw [← (setI_ok h hc).2];exact setL_len _
def andS (a b:Int):Int:=Go.bits .and .i64 a b
def minusS (a b:Int):Int:=Go.bits .andNot .i64 a b
theorem andS_eq {a b:Int} (ha:isSet a) (hb:isSet b):isSet (andS a b)∧setL (andS a b)=(setL a).filter (fun x=>(setL b).contains x):=by
 obtain ⟨a,rfl⟩:=fin_set ha
 obtain ⟨b,rfl⟩:=fin_set hb
 have key:∀ a b:Fin 64,(0≤andS (a.val:Int) (b.val:Int)∧andS (a.val:Int) (b.val:Int) < 64)∧setL (andS (a.val:Int) (b.val:Int))=(setL (a.val:Int)).filter (fun x=>(setL (b.val:Int)).contains x):=by decide +kernel
 exact key a b
theorem minusS_eq {a b:Int} (ha:isSet a) (hb:isSet b):isSet (minusS a b)∧setL (minusS a b)=(setL a).filter (fun x=>!(setL b).contains x):=by
 obtain ⟨a,rfl⟩:=fin_set ha
 obtain ⟨b,rfl⟩:=fin_set hb
 have key:∀ a b:Fin 64,(0≤minusS (a.val:Int) (b.val:Int)∧minusS (a.val:Int) (b.val:Int) < 64)∧setL (minusS (a.val:Int) (b.val:Int))=(setL (a.val:Int)).filter (fun x=>!(setL (b.val:Int)).contains x):=by decide +kernel
 exact key a b
theorem mem_putL (l:List Int) (n x:Int):x∈putL l n↔x=n ∨ x∈l:=by
 unfold putL
 split
 ·rename_i h
  have h2:n∈l:=by simpa using h
  exact ⟨.inr,fun h3=>h3.elim (fun e=>e ▸ h2) id⟩
 ·generalize (l.takeWhile fun y=>decide (y < n)).length=m
  rw [List.mem_append,List.mem_cons]
  have e:x∈l↔x∈l.take m ∨ x∈l.drop m:=by rw [← List.mem_append,List.take_append_drop]
  rw [e]
  exact ⟨fun h=>h.elim (fun h=>.inr (.inl h)) (fun h=>h.elim .inl (fun h=>.inr (.inr h))),fun h=>h.elim (fun h=>.inr (.inl h)) (fun h=>h.elim .inl (fun h=>.inr (.inr h)))⟩
theorem mem_foldl_putL : ∀ (l p:List Int) (x:Int),x∈l.foldl putL p↔x∈p ∨ x∈l
 | [],p,x=>by simp
 | n :: l,p,x=>by
  rw [List.foldl_cons,mem_foldl_putL l,mem_putL,List.mem_cons]
  exact ⟨fun h=>h.elim (fun h=>h.elim (fun h=>.inr (.inl h)) .inl) (fun h=>.inr (.inr h)),fun h=>h.elim (fun h=>.inl (.inr h)) (fun h=>h.elim (fun h=>.inl (.inl h)) .inr)⟩
theorem mem_or {a b:Int} (ha:isSet a) (hb:isSet b) (x:Int):x∈setL (orS a b)↔x∈setL a ∨ x∈setL b:=by rw [orS_fold ha hb,mem_foldl_putL]
theorem mem_and {a b:Int} (ha:isSet a) (hb:isSet b) (x:Int):x∈setL (andS a b)↔x∈setL a∧x∈setL b:=by rw [(andS_eq ha hb).2,List.mem_filter];simp
theorem mem_minus {a b:Int} (ha:isSet a) (hb:isSet b) (x:Int):x∈setL (minusS a b)↔x∈setL a∧x ∉ setL b:=by rw [(minusS_eq ha hb).2,List.mem_filter];simp
theorem mem_has {a b:Int} (ha:isSet a) (hb:isSet b):hasB a b=true↔∀ x∈setL b,x∈setL a:=by rw [hasB_iff ha hb,List.all_eq_true];simp
theorem setL_pw (s:Int):(setL s).Pairwise (· < ·):=by
 unfold setL
 rw [List.pairwise_map]
 refine List.Pairwise.imp (fun h=>by omega) ((List.pairwise_lt_range (n:=6)).filter _)
theorem pw_eq : ∀ {a b:List Int},a.Pairwise (· < ·)→b.Pairwise (· < ·)→(∀ x,x∈a↔x∈b)→a=b
 | [],[],_,_,_=>rfl
 | [],y :: b,_,_,h=>absurd ((h y).2 List.mem_cons_self) (by simp)
 | x :: a,[],_,_,h=>absurd ((h x).1 List.mem_cons_self) (by simp)
 | x :: a,y :: b,ha,hb,h=>by
  obtain ⟨hx,ha2⟩:=List.pairwise_cons.1 ha
  obtain ⟨hy,hb2⟩:=List.pairwise_cons.1 hb
  have e:x=y:=by
   rcases List.mem_cons.1 ((h x).1 List.mem_cons_self) with e | m
   ·exact e
   ·rcases List.mem_cons.1 ((h y).2 List.mem_cons_self) with e | m2
    ·exact e.symm
    ·have:=hy x m;have:=hx y m2;omega
  subst e
  rw [pw_eq ha2 hb2 fun z=>?_]
  constructor
  ·intro hz
   rcases List.mem_cons.1 ((h z).1 (List.mem_cons_of_mem _ hz)) with e | m
   ·have:=hx z hz;omega
   ·exact m
  ·intro hz
   rcases List.mem_cons.1 ((h z).2 (List.mem_cons_of_mem _ hz)) with e | m
   ·have:=hy z hz;omega
   ·exact m
/-- A set has another one: it is as great just if it is the same. -/
theorem sub_len {a b:Int} (ha:isSet a) (hb:isSet b) (h:∀ x∈setL b,x∈setL a):(setL b).length≤(setL a).length∧((setL b).length=(setL a).length↔a=b):=by
 obtain ⟨a,rfl⟩:=fin_set ha
 obtain ⟨b,rfl⟩:=fin_set hb
 have key:∀ a b:Fin 64,(∀ x∈setL (b.val:Int),x∈setL (a.val:Int))→(setL (b.val:Int)).length≤(setL (a.val:Int)).length∧((setL (b.val:Int)).length=(setL (a.val:Int)).length↔(a.val:Int)=(b.val:Int)):=by decide +kernel
 exact key a b h
theorem l1Has_ev (l:List Int) (x:Int) (hl:l.length≤4194304):Ev (fun k=>spec_l1Has.f k l x) (l.contains x):=by
 have loop:=loop_up (n:=l.length) (P:=fun i=>Ev (fun k=>spec_l1Has.l0 k x l (l.length:Int) (i:Int)) ((l.drop i).contains x)) ?_ ?_
 ·unfold spec_l1Has.f
  exact loop 0 (Nat.zero_le _)
 ·refine Ev.succ ?_
  simp only [spec_l1Has.l0]
  exact Ev.neg (by omega) (Ev.const (by simp))
 ·intro i hi ih
  refine Ev.succ ?_
  simp only [spec_l1Has.l0]
  refine Ev.pos (by omega) (Ev.pos (by omega) (Ev.pos (by omega) ?_))
  rw [List.drop_eq_getElem_cons hi,List.contains_cons,rd_nat hi,wrap_add (by omega) (by omega)]
  by_cases h:l[i]=x
  ·exact Ev.pos h (Ev.const (by simp [h]))
  ·have h':(x == l[i])=false:=by simpa using fun e=>h e.symm
   rw [h',Bool.false_or]
   exact Ev.neg h ih
theorem takeWhile_at (p:Int→Bool):∀ (l:List Int) (i:Nat),i≤l.length→(∀ j,(h:j < l.length)→j < i→p l[j]=true)→(∀ h:i < l.length,p l[i]=false)→(l.takeWhile p).length=i
 | [],i,hi,_,_=>by simp at hi;simp [hi]
 | a :: l,0,_,_,h2=>by have:=h2 (by simp);simp at this;simp [List.takeWhile_cons,this]
 | a :: l,i + 1,hi,h1,h2=>by
  have h0:=h1 0 (by simp) (by omega)
  simp at h0
  rw [List.takeWhile_cons,h0]
  simp only [if_true,List.length_cons]
  rw [takeWhile_at p l i (by simpa using hi) (fun j h hj=>by have:=h1 (j + 1) (by simpa using h) (by omega);simpa using this) (fun h=>by have:=h2 (by simpa using h);simpa using this)]
theorem l7Put_ev (l:List Int) (n:Int) (hl:l.length≤1000):Ev (fun k=>spec_l7Put.f k l n) (putL l n):=by
 unfold spec_l7Put.f
 refine Ev.bind (l1Has_ev l n (by omega)) ?_
 by_cases hc:l.contains n=true
 ·rw [putL,if_pos hc]
  exact Ev.pos hc (Ev.const rfl)
 ·refine Ev.neg hc ?_
  rw [putL,if_neg hc]
  have done:∀ i:Nat,i≤l.length→(∀ j,(h:j < l.length)→j < i→decide (l[j] < n)=true)→(∀ h:i < l.length,decide (l[i] < n)=false)→l.take (l.takeWhile (fun x=>decide (x < n))).length++n :: l.drop (l.takeWhile (fun x=>decide (x < n))).length=([]++l.take (i:Int).toNat)++[n]++l.drop (i:Int).toNat:=by
   intro i hi h1 h2
   rw [takeWhile_at _ l i hi h1 h2];simp
  have loop:=loop_up (n:=l.length) (P:=fun i=>(∀ j,(h:j < l.length)→j < i→decide (l[j] < n)=true)→Ev (fun k=>spec_l7Put.l0 k l n (i:Int)) (l.take (l.takeWhile (fun x=>decide (x < n))).length++n :: l.drop (l.takeWhile (fun x=>decide (x < n))).length)) ?_ ?_
  ·exact loop 0 (Nat.zero_le _) (fun j _ h=>absurd h (Nat.not_lt_zero _))
  ·intro h1
   refine Ev.succ ?_
   rw [done l.length (Nat.le_refl _) h1 (fun h=>absurd h (Nat.lt_irrefl _))]
   simp only [spec_l7Put.l0,Option.bind_some]
   refine Ev.neg (by omega) (Ev.pos (by omega) (Ev.pos (by omega) (Ev.pos (by simp;omega) (Ev.pos (by simp;omega) (Ev.pos (by simp;omega) (Ev.const rfl))))))
  ·intro i hi ih h1
   refine Ev.succ ?_
   simp only [spec_l7Put.l0,Option.bind_some]
   refine Ev.pos (by omega) (Ev.pos (by omega) ?_)
   rw [rd_nat hi,wrap_add (by omega) (by omega)]
   by_cases h:l[i] < n
   ·refine Ev.pos h (ih (fun j hj hji=>?_))
    by_cases e:j=i
    ·subst e;simpa using h
    ·exact h1 j hj (by omega)
   ·refine Ev.neg h ?_
    rw [done i (by omega) h1 (fun _=>by simpa using h)]
    exact Ev.pos (by omega) (Ev.pos (by simp;omega) (Ev.pos (by simp;omega) (Ev.pos (by simp;omega) (Ev.const rfl))))
/-! ### chapter 7: dependencies -/
open Classical in
noncomputable def tell (p : Prop) : Bool := decide p
theorem tell_yes {p:Prop} (h:p):tell p=true:=by simp [tell,h]
theorem tell_no {p:Prop} (h:¬ p):tell p=false:=by simp [tell,h]
theorem tell_iff {p:Prop}:tell p=true↔p:=by simp [tell]
theorem l7All_ev (a b:List Int) (ha:a.length≤4194304) (hb:b.length≤4194304):Ev (fun k=>spec_l7All.f k a b) (b.all fun x=>a.contains x):=by
 have loop:=loop_up (n:=b.length) (P:=fun i=>Ev (fun k=>spec_l7All.l0 k a b (b.length:Int) (i:Int)) ((b.drop i).all fun x=>a.contains x)) ?_ ?_
 ·exact loop 0 (Nat.zero_le _)
 ·refine Ev.succ ?_
  simp only [spec_l7All.l0]
  exact Ev.neg (by omega) (Ev.const (by simp))
 ·intro i hi ih
  refine Ev.succ ?_
  simp only [spec_l7All.l0]
  rw [rd_nat hi,wrap_add (by omega) (by omega),List.drop_eq_getElem_cons hi,List.all_cons]
  refine Ev.pos (by omega) (Ev.pos (by omega) (Ev.pos (by omega) (Ev.bind (l1Has_ev a b[i] ha) ?_)))
  cases h:a.contains b[i] with
  | true=>exact Ev.pos rfl (by simpa using ih)
  | false=>exact Ev.neg (by simp) (Ev.const (by simp))
theorem setOf_ev (l:List Int) (hl:l.length≤4194304) (h:∀ x∈l,0≤x):Ev (fun k=>impl_setOf.f k l) (setI l):=by
 have loop:=loop_up (n:=l.length) (P:=fun i=>∀ s:Int,(l.drop i).foldl orB s=setI l→Ev (fun k=>impl_setOf.l0 k s l (l.length:Int) (i:Int)) (setI l)) ?_ ?_
 ·exact loop 0 (Nat.zero_le _) 0 rfl
 ·intro s hs
  refine Ev.succ ?_
  simp only [impl_setOf.l0]
  exact Ev.neg (by omega) (Ev.const (by rw [← hs];simp))
 ·intro i hi ih s hs
  refine Ev.succ ?_
  simp only [impl_setOf.l0]
  rw [rd_nat hi,wrap_add (by omega) (by omega)]
  refine Ev.pos (by omega) (Ev.pos (by omega) (Ev.pos (by omega) (Ev.pos (h _ (List.getElem_mem hi)) (ih _ ?_))))
  rw [← hs,List.drop_eq_getElem_cons hi];rfl
/-- The reference's rounds, on lists. -/
theorem l7Put_set (s n:Int) (hs:isSet s) (h0:0≤n) (h5:n≤5):Ev (fun k=>spec_l7Put.f k (setL s) n) (setL (orB s n)):=by
 rw [(orB_ok hs h0 h5).2]
 exact l7Put_ev (setL s) n (by have:=setL_len s;omega)
theorem ris_from {l:List Int} {c:Int} (P:Nat→Prop) (hP:∀ i,P i↔∀ j,(hj:j < l.length)→j < i→0≤l[j]∧l[j] < c∧(0 < j→l[j - 1]'(by omega) < l[j])):P l.length↔ris l c:=by
 rw [hP]
 exact ⟨fun h i hi=>h i hi hi,fun h j hj _=>h j hj⟩
theorem l1Some_ev (l:List Int) (c:Int) (hl:l.length≤4194304):Ev (fun k=>spec_l1Some.f k l c) (tell (ris l c)):=by
 have loop:=loop_up (n:=l.length) (P:=fun i=>(∀ j,(hj:j < l.length)→j < i→0≤l[j]∧l[j] < c∧(0 < j→l[j - 1]'(by omega) < l[j]))→Ev (fun k=>spec_l1Some.l0 k l c l (l.length:Int) (i:Int)) (tell (ris l c))) ?_ ?_
 ·exact loop 0 (Nat.zero_le _) (fun j _ h=>absurd h (Nat.not_lt_zero _))
 ·intro g
  refine Ev.succ ?_
  simp only [spec_l1Some.l0]
  exact Ev.neg (by omega) (Ev.const (by rw [tell_yes (show ris l c from fun i hi=>g i hi hi)]))
 ·intro i hi ih g
  refine Ev.succ ?_
  simp only [spec_l1Some.l0]
  rw [rd_nat hi,wrap_add (by omega) (by omega)]
  refine Ev.pos (by omega) (Ev.pos (by omega) (Ev.pos (by omega) ?_))
  by_cases h1:l[i] < 0
  ·exact Ev.pos h1 (Ev.const (by rw [tell_no fun h=>by have:=(h i hi).1;omega]))
  refine Ev.neg h1 ?_
  by_cases h2:l[i] ≥ c
  ·exact Ev.pos h2 (Ev.const (by rw [tell_no fun h=>by have:=(h i hi).2.1;omega]))
  refine Ev.neg h2 ?_
  have next:(0 < i→l[i - 1]'(by omega) < l[i])→Ev (fun k=>spec_l1Some.l0 k l c l (l.length:Int) ((i:Int) + 1)) (tell (ris l c)):=fun hn=>ih fun j hj hji=>by
   by_cases e:j=i
   ·subst e;exact ⟨by omega,by omega,hn⟩
   ·exact g j hj (by omega)
  by_cases h3:0 < i
  ·refine Ev.pos (by omega) ?_
   rw [wrap_id (by omega) (by omega),show (i:Int) - 1=((i - 1:Nat):Int) by omega,rd_nat (show i - 1 < l.length by omega)]
   refine Ev.pos (by omega) (Ev.pos (by omega) ?_)
   by_cases h4:l[i - 1] ≥ l[i]
   ·exact Ev.pos h4 (Ev.const (by rw [tell_no fun h=>by have:=(h i hi).2.2 h3;omega]))
   ·exact Ev.neg h4 (next fun _=>by omega)
  ·exact Ev.neg (by omega) (next fun h=>absurd h h3)
theorem areRising_ev (l:List Int) (c:Int) (hl:l.length≤4194304):Ev (fun k=>impl_areRising.f k l c) (tell (ris l c)):=by
 have loop:=loop_up (n:=l.length) (P:=fun i=>(∀ j,(hj:j < l.length)→j < i→0≤l[j]∧l[j] < c∧(0 < j→l[j - 1]'(by omega) < l[j]))→Ev (fun k=>impl_areRising.l0 k l c l (l.length:Int) (i:Int)) (tell (ris l c))) ?_ ?_
 ·exact loop 0 (Nat.zero_le _) (fun j _ h=>absurd h (Nat.not_lt_zero _))
 ·intro g
  refine Ev.succ ?_
  simp only [impl_areRising.l0]
  exact Ev.neg (by omega) (Ev.const (by rw [tell_yes (show ris l c from fun i hi=>g i hi hi)]))
 ·intro i hi ih g
  refine Ev.succ ?_
  simp only [impl_areRising.l0,impl_isPlace.f]
  rw [rd_nat hi,wrap_add (by omega) (by omega)]
  refine Ev.pos (by omega) (Ev.pos (by omega) (Ev.pos (by omega) ?_))
  by_cases h1:l[i] ≥ 0
  case neg =>
   refine Ev.bind (a:=false) (Ev.const (if_neg h1)) (Ev.neg (by simp) (Ev.const ?_))
   rw [tell_no fun h=>by have:=(h i hi).1;omega]
  by_cases h2:l[i] < c
  case neg =>
   refine Ev.bind (a:=false) (Ev.const (by rw [if_pos h1,decide_eq_false h2])) (Ev.neg (by simp) (Ev.const ?_))
   rw [tell_no fun h=>by have:=(h i hi).2.1;omega]
  refine Ev.bind (a:=true) (Ev.const (by rw [if_pos h1,decide_eq_true h2])) (Ev.pos rfl ?_)
  have next:(0 < i→l[i - 1]'(by omega) < l[i])→Ev (fun k=>impl_areRising.l0 k l c l (l.length:Int) ((i:Int) + 1)) (tell (ris l c)):=fun hn=>ih fun j hj hji=>by
   by_cases e:j=i
   ·subst e;exact ⟨by omega,by omega,hn⟩
   ·exact g j hj (by omega)
  by_cases h3:0 < i
  ·refine Ev.pos (by omega) ?_
   rw [wrap_id (by omega) (by omega),show (i:Int) - 1=((i - 1:Nat):Int) by omega,rd_nat (show i - 1 < l.length by omega)]
   refine Ev.pos (by omega) (Ev.pos (by omega) ?_)
   by_cases h4:l[i]≤l[i - 1]
   ·exact Ev.pos h4 (Ev.const (by rw [tell_no fun h=>by have:=(h i hi).2.2 h3;omega]))
   ·exact Ev.neg h4 (next fun _=>by omega)
  ·exact Ev.neg (by omega) (next fun h=>absurd h h3)
/-- A dependency of so many columns; good dependencies. -/
def depOk (c:Int) (d:S45):Prop:=ris d.f0 c∧ris d.f1 c
def depsOk (l:List S45) (c:Int):Prop:=(∀ d∈l,depOk c d)∧1≤c∧c≤6∧l.length≤10
def shortD (l:List S45):Prop:=l.length≤1048576∧∀ x∈l,x.f0.length≤1048576∧x.f1.length≤1048576
theorem l7Depend_ev (d:S45) (c:Int) (h:d.f0.length≤1048576∧d.f1.length≤1048576):Ev (fun k=>spec_l7Depend.f k d.f0 d.f1 c) (tell (depOk c d)):=by
 unfold spec_l7Depend.f
 refine Ev.bind (l1Some_ev d.f0 c (by omega)) ?_
 by_cases h1:ris d.f0 c
 ·refine Ev.pos (tell_yes h1) (Ev.bind (l1Some_ev d.f1 c (by omega)) (Ev.const ?_))
  congr 1
  rw [Bool.eq_iff_iff,tell_iff,tell_iff]
  exact ⟨fun h2=>⟨h1,h2⟩,fun h2=>h2.2⟩
 ·exact Ev.neg (by rw [tell_no h1];simp) (Ev.const (by rw [tell_no fun h2=>h1 h2.1]))
theorem isDepend_ev (d:S45) (c:Int) (h:d.f0.length≤1048576∧d.f1.length≤1048576):Ev (fun k=>impl_isDepend.f k d.f0 d.f1 c) (tell (depOk c d)):=by
 unfold impl_isDepend.f
 refine Ev.bind (areRising_ev d.f0 c (by omega)) ?_
 by_cases h1:ris d.f0 c
 ·refine Ev.pos (tell_yes h1) (Ev.bind (areRising_ev d.f1 c (by omega)) (Ev.const ?_))
  congr 1
  rw [Bool.eq_iff_iff,tell_iff,tell_iff]
  exact ⟨fun h2=>⟨h1,h2⟩,fun h2=>h2.2⟩
 ·exact Ev.neg (by rw [tell_no h1];simp) (Ev.const (by rw [tell_no fun h2=>h1 h2.1]))
theorem rdD {l:List S45} {i:Nat} (h:i < l.length):rd_T45 l (i:Int)=l[i]:=by simp [rd_T45,h]
theorem rdR {l:List S72} {i:Nat} (h:i < l.length):rd_T72 l (i:Int)=l[i]:=by simp [rd_T72,h]
theorem specGood_ev (l:List S45) (c:Int) (hl:shortD l):Ev (fun k=>spec_GoodDepends.f k l c) (tell (depsOk l c)):=by
 have hln:=hl.1
 have loop:=loop_up (n:=l.length) (P:=fun i=>(∀ j,(hj:j < l.length)→j < i→depOk c l[j])→Ev (fun k=>spec_GoodDepends.l0 k l c l (l.length:Int) (i:Int)) (tell (depsOk l c))) ?_ ?_
 ·exact loop 0 (Nat.zero_le _) (fun j _ h=>absurd h (Nat.not_lt_zero _))
 ·intro g
  have all:∀ d∈l,depOk c d:=fun d hd=>by obtain ⟨i,hi,rfl⟩:=List.getElem_of_mem hd;exact g i hi hi
  refine Ev.succ ?_
  simp only [spec_GoodDepends.l0,spec_l1In.f]
  refine Ev.neg (by omega) ?_
  by_cases h1:c ≥ 1
  case neg=>exact Ev.bind (Ev.const (if_neg h1)) (Ev.neg (by simp) (Ev.const (by rw [tell_no fun h=>h1 h.2.1])))
  by_cases h2:c≤6
  case neg=>exact Ev.bind (Ev.const (by rw [if_pos h1,decide_eq_false h2])) (Ev.neg (by simp) (Ev.const (by rw [tell_no fun h=>h2 h.2.2.1])))
  refine Ev.bind (Ev.const (by rw [if_pos h1,decide_eq_true h2])) (Ev.pos rfl (Ev.const ?_))
  congr 1
  rw [Bool.eq_iff_iff,decide_eq_true_iff,tell_iff]
  exact ⟨fun h=>⟨all,h1,h2,by omega⟩,fun h=>by have:=h.2.2.2;omega⟩
 ·intro i hi ih g
  refine Ev.succ ?_
  simp only [spec_GoodDepends.l0]
  rw [rdD hi,wrap_add (by omega) (by omega)]
  refine Ev.pos (by omega) (Ev.pos (by omega) (Ev.pos (by omega) (Ev.bind (l7Depend_ev l[i] c (hl.2 _ (List.getElem_mem hi))) ?_)))
  by_cases h1:depOk c l[i]
  ·refine Ev.pos (tell_yes h1) (ih fun j hj hji=>?_)
   by_cases e:j=i
   ·subst e;exact h1
   ·exact g j hj (by omega)
  ·exact Ev.neg (by rw [tell_no h1];simp) (Ev.const (by rw [tell_no fun h=>h1 (h.1 _ (List.getElem_mem hi))]))
theorem implGood_ev (l:List S45) (c:Int) (hl:shortD l):Ev (fun k=>impl_GoodDepends.f k l c) (tell (depsOk l c)):=by
 unfold impl_GoodDepends.f impl_within.f
 by_cases h1:1≤c
 case neg=>exact Ev.bind (Ev.const (if_neg h1)) (Ev.neg (by simp) (Ev.const (by rw [tell_no fun h=>h1 h.2.1])))
 by_cases h2:c≤6
 case neg=>exact Ev.bind (Ev.const (by rw [if_pos h1,decide_eq_false h2])) (Ev.neg (by simp) (Ev.const (by rw [tell_no fun h=>h2 h.2.2.1])))
 refine Ev.bind (Ev.const (by rw [if_pos h1,decide_eq_true h2])) (Ev.pos rfl ?_)
 by_cases h3:(l.length:Int)≤10
 case neg=>exact Ev.neg h3 (Ev.const (by rw [tell_no fun h=>h3 (by have:=h.2.2.2;omega)]))
 refine Ev.pos h3 ?_
 have all:∀ l:List S45,(∀ x∈l,x.f0.length≤1048576∧x.f1.length≤1048576)→∃ K,∀ k,K≤k→∀ d∈l,impl_isDepend.f k d.f0 d.f1 c=some (tell (depOk c d)):=by
  intro l
  induction l with
  | nil=>exact fun _=>⟨0,fun _ _ d hd=>by cases hd⟩
  | cons a l ih =>
   intro h
   obtain ⟨K1,hK1⟩:=ih (fun x hx=>h x (List.mem_cons_of_mem _ hx))
   obtain ⟨K2,hK2⟩:=isDepend_ev a c (h a List.mem_cons_self)
   refine ⟨K1 + K2,fun k hk d hd=>?_⟩
   rcases List.mem_cons.1 hd with rfl | hd
   ·exact hK2 k (by omega)
   ·exact hK1 k (by omega) d hd
 obtain ⟨K,hK⟩:=all l hl.2
 have hE:Ev (fun k=>areAll_GoodDepends1.f k l c) (tell (∀ d∈l,depOk c d)):=by
  refine ⟨K,fun k hk=>?_⟩
  have h4:=hK k hk
  show areAll_GoodDepends1.f k l c=_
  unfold areAll_GoodDepends1.f
  rw [if_pos (List.all_eq_true.2 fun d hd=>by rw [h4 d hd];rfl)]
  congr 1
  rw [Bool.eq_iff_iff,List.all_eq_true,tell_iff]
  refine forall_congr' fun d=>forall_congr' fun hd=>?_
  unfold depB
  rw [h4 d hd]
  exact tell_iff
 refine Ev.bind hE (Ev.const ?_)
 congr 1
 rw [Bool.eq_iff_iff,tell_iff,tell_iff]
 exact ⟨fun h=>⟨h,h1,h2,by omega⟩,fun h=>h.1⟩
/-- A list of dependencies as rules of sets. -/
def ruleI (d:S45):S72:=⟨setI d.f0,setI d.f1⟩
def rulesI (l:List S45):List S72:=l.map ruleI
def ruleSet (r:S72):Prop:=isSet r.f0∧isSet r.f1
theorem ruleI_ok {d:S45} {c:Int} (h:depOk c d) (hc:c≤6):ruleSet (ruleI d)∧setL (ruleI d).f0=d.f0∧setL (ruleI d).f1=d.f1 :=
 ⟨⟨(setI_ok h.1 hc).1,(setI_ok h.2 hc).1⟩,(setI_ok h.1 hc).2,(setI_ok h.2 hc).2⟩
theorem rulesI_ok {l:List S45} {c:Int} (h:∀ d∈l,depOk c d) (hc:c≤6):∀ r∈rulesI l,ruleSet r:=by
 intro r hr
 obtain ⟨d,hd,rfl⟩:=List.mem_map.1 hr
 exact (ruleI_ok (h d hd) hc).1
/-- One round of what columns tell; what they tell. -/
def stepR (s:Int) (r:S72):Int:=if hasB s r.f0=true then orS s r.f1 else s
def roundR (R:List S72) (s:Int):Int:=R.foldl stepR s
theorem stepR_ok {s:Int} {r:S72} (hs:isSet s) (hr:ruleSet r):isSet (stepR s r):=by
 unfold stepR;split
 ·exact orS_set hs hr.2
 ·exact hs
theorem roundR_ok : ∀ {R:List S72} {s:Int},isSet s→(∀ r∈R,ruleSet r)→isSet (roundR R s)
 | [],s,hs,_=>hs
 | r :: R,s,hs,h=>roundR_ok (R:=R) (stepR_ok hs (h r List.mem_cons_self)) (fun x hx=>h x (List.mem_cons_of_mem _ hx))
theorem roundR_len : ∀ {R:List S72} {s:Int},isSet s→(∀ r∈R,ruleSet r)→(setL s).length≤(setL (roundR R s)).length∧((setL (roundR R s)).length=(setL s).length→roundR R s=s)
 | [],s,hs,_=>⟨Nat.le_refl _,fun _=>rfl⟩
 | r :: R,s,hs,h=>by
  have hr:=h r List.mem_cons_self
  obtain ⟨k1,k2⟩:=roundR_len (R:=R) (stepR_ok hs hr) (fun x hx=>h x (List.mem_cons_of_mem _ hx))
  have hst:(setL s).length≤(setL (stepR s r)).length∧((setL (stepR s r)).length=(setL s).length→stepR s r=s):=by
   unfold stepR;split
   ·exact ⟨(orS_len hs hr.2).1,fun e=>((orS_len hs hr.2).2.1 e.symm)⟩
   ·exact ⟨Nat.le_refl _,fun _=>rfl⟩
  show (setL s).length≤(setL (roundR R (stepR s r))).length∧((setL (roundR R (stepR s r))).length=(setL s).length→roundR R (stepR s r)=s)
  refine ⟨by omega,fun e=>?_⟩
  have e1:=hst.2 (by omega)
  rw [e1] at k2 e ⊢
  exact k2 e
def cloN (R:List S72):Nat→Int→Int
 | 0,s=>s
 | n + 1,s=>if roundR R s=s then s else cloN R n (roundR R s)
/-- What columns tell. -/
def cloI (R:List S72) (s:Int):Int:=cloN R 7 s
theorem cloN_ok {R:List S72} (h:∀ r∈R,ruleSet r):∀ n {s:Int},isSet s→isSet (cloN R n s)
 | 0,_,hs=>hs
 | n + 1,s,hs=>by
  unfold cloN;split
  ·exact hs
  ·exact cloN_ok h n (roundR_ok hs h)
theorem cloI_ok {R:List S72} {s:Int} (h:∀ r∈R,ruleSet r) (hs:isSet s):isSet (cloI R s):=cloN_ok h 7 hs
theorem rulesOf_ev (l:List S45) (c:Int) (hl:l.length≤1000) (h:∀ d∈l,depOk c d) (hc:c≤6):Ev (fun k=>impl_rulesOf.f k l) (rulesI l):=by
 have loop:=loop_up (n:=l.length) (P:=fun i=>Ev (fun k=>impl_rulesOf.l0 k (rulesI (l.take i)) l (l.length:Int) (i:Int)) (rulesI l)) ?_ ?_
 ·exact loop 0 (Nat.zero_le _)
 ·refine Ev.succ ?_
  simp only [impl_rulesOf.l0]
  exact Ev.neg (by omega) (Ev.const (by simp))
 ·intro i hi ih
  obtain ⟨h0,h1⟩:=h _ (List.getElem_mem hi)
  refine Ev.succ ?_
  simp only [impl_rulesOf.l0]
  rw [rdD hi,wrap_add (by omega) (by omega)]
  refine Ev.pos (by omega) (Ev.pos (by omega) (Ev.pos (by omega) (Ev.bind (setOf_ev l[i].f0 (by have:=ris_len h0 hc;omega) (fun x hx=>(ris_mem h0 x hx).1)) (Ev.bind (setOf_ev l[i].f1 (by have:=ris_len h1 hc;omega) (fun x hx=>(ris_mem h1 x hx).1)) (Ev.pos (by simp [rulesI];omega) ?_)))))
  rw [show rulesI (l.take i)++[⟨setI l[i].f0,setI l[i].f1⟩]=rulesI (l.take (i + 1)) by unfold rulesI;rw [List.take_succ_eq_append_getElem hi,List.map_append];rfl]
  exact ih
theorem closure_round (R:List S72) (hR:R.length≤1000) (x1:Int) {r:Int}:∀ (s:Int) (i:Nat),i≤R.length→Ev (fun k=>if roundR (R.drop i) s=x1 then some x1 else impl_closure.l0 k R (roundR (R.drop i) s)) r→Ev (fun k=>impl_closure.l1 k R x1 s R (R.length:Int) (i:Int)) r:=by
 intro s i hi hq
 have loop:=loop_up (n:=R.length) (P:=fun i=>∀ s,Ev (fun k=>if roundR (R.drop i) s=x1 then some x1 else impl_closure.l0 k R (roundR (R.drop i) s)) r→Ev (fun k=>impl_closure.l1 k R x1 s R (R.length:Int) (i:Int)) r) ?_ ?_
 ·exact loop i hi s hq
 ·intro s h
  refine Ev.succ ?_
  simp only [impl_closure.l1]
  exact Ev.neg (by omega) (by simpa [roundR] using h)
 ·intro i hi ih s h
  refine Ev.succ ?_
  simp only [impl_closure.l1,impl_set_has.f]
  rw [rdR hi,wrap_add (by omega) (by omega)]
  rw [List.drop_eq_getElem_cons hi] at h
  refine Ev.pos (by omega) (Ev.pos (by omega) (Ev.pos (by omega) (Ev.some_bind ?_)))
  by_cases hb:hasB s R[i].f0=true
  ·refine Ev.pos hb (ih _ ?_)
   have e:roundR (R[i] :: R.drop (i + 1)) s=roundR (R.drop (i + 1)) (Go.bits .or .i64 s R[i].f1):=by
    show roundR (R.drop (i + 1)) (stepR s R[i])=_
    unfold stepR;rw [if_pos hb];rfl
   rw [e] at h;exact h
  ·refine Ev.neg hb (ih _ ?_)
   have e:roundR (R[i] :: R.drop (i + 1)) s=roundR (R.drop (i + 1)) s:=by
    show roundR (R.drop (i + 1)) (stepR s R[i])=_
    unfold stepR;rw [if_neg hb]
   rw [e] at h;exact h
theorem closureN_ev (R:List S72) (hR:R.length≤1000) (hs:∀ r∈R,ruleSet r):∀ (n:Nat) (s:Int),isSet s→6 < (setL s).length + n→Ev (fun k=>impl_closure.l0 k R s) (cloN R n s):=by
 intro n
 induction n with
 | zero=>intro s h h2;have:=setL_len s;omega
 | succ n ih =>
  intro s h h2
  refine Ev.succ ?_
  simp only [impl_closure.l0]
  refine closure_round R hR s s 0 (Nat.zero_le _) ?_
  rw [List.drop_zero]
  unfold cloN
  obtain ⟨l1,l2⟩:=roundR_len h hs
  by_cases e:roundR R s=s
  ·rw [if_pos e];exact Ev.pos e (Ev.const rfl)
  ·rw [if_neg e]
   refine Ev.neg e (ih _ (roundR_ok h hs) ?_)
   have:(setL (roundR R s)).length ≠ (setL s).length:=fun e2=>e (l2 e2)
   omega
theorem closure_ev (R:List S72) (hR:R.length≤1000) (hs:∀ r∈R,ruleSet r) (s:Int) (h:isSet s):Ev (fun k=>impl_closure.f k R s) (cloI R s):=closureN_ev R hR hs 7 s h (by omega)
theorem l7Closure_round (l:List S45) (c:Int) (hl:l.length≤1000) (h:∀ d∈l,depOk c d) (hc:c≤6) (n:Int) {r:List Int}:∀ (s:Int) (i:Nat),isSet s→i≤l.length →
  (∀ t,isSet t→t=roundR (rulesI (l.drop i)) s→Ev (fun k=>if ((setL t).length:Int)=n then some (setL t) else spec_l7Closure.l0 k l (setL t)) r)→Ev (fun k=>spec_l7Closure.l1 k l (setL s) n l (l.length:Int) (i:Int)) r:=by
 intro s i hs hi hq
 have loop:=loop_up (n:=l.length) (P:=fun i=>∀ s,isSet s→(∀ t,isSet t→t=roundR (rulesI (l.drop i)) s→Ev (fun k=>if ((setL t).length:Int)=n then some (setL t) else spec_l7Closure.l0 k l (setL t)) r)→Ev (fun k=>spec_l7Closure.l1 k l (setL s) n l (l.length:Int) (i:Int)) r) ?_ ?_
 ·exact loop i hi s hs hq
 ·intro s hs hq
  refine Ev.succ ?_
  simp only [spec_l7Closure.l1]
  exact Ev.neg (by omega) (hq s hs (by simp [rulesI,roundR]))
 ·intro i hi ih s hs hq
  have hd:=h _ (List.getElem_mem hi)
  obtain ⟨⟨k0,k1⟩,e0,e1⟩:=ruleI_ok hd hc
  rw [List.drop_eq_getElem_cons hi] at hq
  refine Ev.succ ?_
  simp only [spec_l7Closure.l1]
  rw [rdD hi,wrap_add (by omega) (by omega)]
  refine Ev.pos (by omega) (Ev.pos (by omega) (Ev.pos (by omega) (Ev.bind (l7All_ev (setL s) l[i].f0 (by have:=setL_len s;omega) (by have:=ris_len hd.1 hc;omega)) ?_)))
  have hh:=hasB_iff hs k0
  rw [e0] at hh
  rw [← hh]
  by_cases hb:hasB s (ruleI l[i]).f0=true
  ·refine Ev.pos hb ?_
      -- the numbers of To, one after the other
   have inner:=loop_up (n:=l[i].f1.length) (P:=fun j=>∀ t,isSet t→(l[i].f1.drop j).foldl putL (setL t)=setL (orS s (ruleI l[i]).f1)→Ev (fun k=>spec_l7Closure.l2 k l (setL t) n l (l.length:Int) (i:Int) l[i].f1 (l[i].f1.length:Int) (j:Int)) r) ?_ ?_
   ·refine inner 0 (Nat.zero_le _) s hs ?_
    rw [orS_fold hs k1,e1];rfl
   ·intro t ht e
    refine Ev.succ ?_
    simp only [spec_l7Closure.l2]
    rw [wrap_add (a:=(i:Int)) (by omega) (by omega)]
    refine Ev.neg (by omega) (ih t ht fun u hu e2=>hq u hu ?_)
    have et:t=orS s (ruleI l[i]).f1:=setL_inj ht (orS_set hs k1) (by simpa using e)
    rw [e2,et]
    show roundR (rulesI (l.drop (i + 1))) _=roundR (rulesI (l.drop (i + 1))) (stepR s (ruleI l[i]))
    unfold stepR;rw [if_pos hb]
   ·intro j hj ihj t ht e
    have hm:=ris_mem hd.2 _ (List.getElem_mem hj)
    refine Ev.succ ?_
    simp only [spec_l7Closure.l2]
    have hlen:=ris_len hd.2 hc
    rw [rd_nat hj,wrap_add (a:=(j:Int)) (by omega) (by omega)]
    refine Ev.pos (by omega) (Ev.pos (by omega) (Ev.pos (by omega) (Ev.bind (l7Put_set t _ ht hm.1 (by omega)) (ihj _ (orB_ok ht hm.1 (by omega)).1 ?_))))
    rw [(orB_ok ht hm.1 (by omega)).2,← e,List.drop_eq_getElem_cons hj];rfl
  ·refine Ev.neg hb (ih s hs fun u hu e2=>hq u hu ?_)
   rw [e2]
   show _=roundR (rulesI (l.drop (i + 1))) (stepR s (ruleI l[i]))
   unfold stepR;rw [if_neg hb]
theorem l7ClosureN_ev (l:List S45) (c:Int) (hl:l.length≤1000) (h:∀ d∈l,depOk c d) (hc:c≤6):∀ (n:Nat) (s:Int),isSet s→6 < (setL s).length + n→Ev (fun k=>spec_l7Closure.l0 k l (setL s)) (setL (cloN (rulesI l) n s)):=by
 have hR:=rulesI_ok h hc
 intro n
 induction n with
 | zero=>intro s h h2;have:=setL_len s;omega
 | succ n ih =>
  intro s hs h2
  refine Ev.succ ?_
  simp only [spec_l7Closure.l0]
  refine l7Closure_round l c hl h hc _ s 0 hs (Nat.zero_le _) ?_
  intro t ht e
  rw [List.drop_zero] at e
  obtain ⟨l1,l2⟩:=roundR_len hs hR
  rw [← e] at l1 l2
  unfold cloN
  rw [← e]
  by_cases e2:t=s
  ·rw [if_pos e2];exact Ev.pos (by rw [e2]) (Ev.const (by rw [e2]))
  ·rw [if_neg e2]
   have hne:(setL t).length ≠ (setL s).length:=fun e3=>e2 (l2 e3)
   exact Ev.neg (by omega) (ih t ht (by omega))
theorem l7Closure_ev (l:List S45) (c:Int) (hl:l.length≤1000) (h:∀ d∈l,depOk c d) (hc:c≤6) (s:Int) (hs:isSet s):Ev (fun k=>spec_l7Closure.f k l (setL s)) (setL (cloI (rulesI l) s)):=by
 unfold spec_l7Closure.f
 refine Ev.some_bind (Ev.pos (by have:=setL_len s;simp;omega) ?_)
 rw [List.nil_append]
 exact l7ClosureN_ev l c hl h hc 7 s hs (by omega)
/-! ### chapter 8: parts -/
theorem sub_step {s:Int} {r:S72} (hs:isSet s) (hr:ruleSet r):∀ x∈setL s,x∈setL (stepR s r):=by
 intro x hx
 unfold stepR;split
 ·exact (mem_or hs hr.2 x).2 (.inl hx)
 ·exact hx
theorem sub_round : ∀ {R:List S72} {s:Int},isSet s→(∀ r∈R,ruleSet r)→∀ x∈setL s,x∈setL (roundR R s)
 | [],_,_,_=>fun _ hx=>hx
 | r :: R,s,hs,h=>fun x hx=>sub_round (R:=R) (stepR_ok hs (h r List.mem_cons_self)) (fun y hy=>h y (List.mem_cons_of_mem _ hy)) x (sub_step hs (h r List.mem_cons_self) x hx)
theorem sub_cloN {R:List S72} (h:∀ r∈R,ruleSet r):∀ (n:Nat) {s:Int},isSet s→∀ x∈setL s,x∈setL (cloN R n s)
 | 0,_,_=>fun _ hx=>hx
 | n + 1,s,hs=>fun x hx=>by
  unfold cloN;split
  ·exact hx
  ·exact sub_cloN h n (roundR_ok hs h) x (sub_round hs h x hx)
theorem sub_clo {R:List S72} (h:∀ r∈R,ruleSet r) {s:Int} (hs:isSet s):∀ x∈setL s,x∈setL (cloI R s):=sub_cloN h 7 hs
theorem l8Within_ev (a b:List Int) (ha:a.length≤4194304) (hb:b.length≤4194304):Ev (fun k=>spec_l8Within.f k a b) (a.filter fun x=>b.contains x):=by
 have loop:=loop_up (n:=a.length) (P:=fun i=>Ev (fun k=>spec_l8Within.l0 k b ((a.take i).filter fun x=>b.contains x) a (a.length:Int) (i:Int)) (a.filter fun x=>b.contains x)) ?_ ?_
 ·unfold spec_l8Within.f
  exact loop 0 (Nat.zero_le _)
 ·refine Ev.succ ?_
  simp only [spec_l8Within.l0]
  exact Ev.neg (by omega) (Ev.const (by simp))
 ·intro i hi ih
  have hle:((a.take i).filter fun x=>b.contains x).length≤i:=Nat.le_trans (List.length_filter_le _ _) (by simp;omega)
  refine Ev.succ ?_
  simp only [spec_l8Within.l0]
  rw [rd_nat hi,wrap_add (by omega) (by omega)]
  rw [List.take_succ_eq_append_getElem hi,List.filter_append] at ih
  refine Ev.pos (by omega) (Ev.pos (by omega) (Ev.pos (by omega) (Ev.bind (l1Has_ev b a[i] hb) ?_)))
  cases h:b.contains a[i] with
  | true =>
   rw [show [a[i]].filter (fun x=>b.contains x)=[a[i]] by rw [List.filter_cons,h];rfl] at ih
   exact Ev.pos rfl (Ev.pos (by omega) ih)
  | false =>
   rw [show [a[i]].filter (fun x=>b.contains x)=[] by rw [List.filter_cons,h];rfl,List.append_nil] at ih
   exact Ev.neg (by simp) ih
theorem within_set {a b:Int} (ha:isSet a) (hb:isSet b):Ev (fun k=>spec_l8Within.f k (setL a) (setL b)) (setL (andS a b)):=by
 rw [(andS_eq ha hb).2]
 exact l8Within_ev _ _ (by have:=setL_len a;omega) (by have:=setL_len b;omega)
theorem l8Part_ev (l:List S45) (c:Int) (p:List Int) (hl:shortD l) (hp:p.length≤4194304):Ev (fun k=>spec_l8Part.f k l c p) (tell (depsOk l c∧ris p c)):=by
 unfold spec_l8Part.f
 refine Ev.bind (specGood_ev l c hl) ?_
 by_cases h1:depsOk l c
 ·refine Ev.pos (tell_yes h1) (Ev.bind (l1Some_ev p c hp) (Ev.const ?_))
  congr 1
  rw [Bool.eq_iff_iff,tell_iff,tell_iff]
  exact ⟨fun h2=>⟨h1,h2⟩,fun h2=>h2.2⟩
 ·exact Ev.neg (by rw [tell_no h1];simp) (Ev.const (by rw [tell_no fun h2=>h1 h2.1]))
/-- What columns tell of a part; whether they part it. -/
def toldI (R:List S72) (p s:Int):Int:=andS (cloI R s) p
def splitsB (R:List S72) (p s:Int):Bool:=toldI R p s != s && toldI R p s != p
theorem told_ok {R:List S72} (h:∀ r∈R,ruleSet r) {p s:Int} (hp:isSet p) (hs:isSet s):isSet (toldI R p s):=(andS_eq (cloI_ok h hs) hp).1
theorem told_sub {R:List S72} (h:∀ r∈R,ruleSet r) {p s:Int} (hp:isSet p) (hs:isSet s) (hsp:∀ x∈setL s,x∈setL p):(∀ x∈setL s,x∈setL (toldI R p s))∧∀ x∈setL (toldI R p s),x∈setL p:=by
 refine ⟨fun x hx=>(mem_and (cloI_ok h hs) hp x).2 ⟨sub_clo h hs x hx,hsp x hx⟩,fun x hx=>((mem_and (cloI_ok h hs) hp x).1 hx).2⟩
theorem l8Splits_ev (l:List S45) (c:Int) (hl:l.length≤1000) (h:∀ d∈l,depOk c d) (hc:c≤6) (p s:Int) (hp:isSet p) (hs:isSet s) (hsp:∀ x∈setL s,x∈setL p):Ev (fun k=>spec_l8Splits.f k l (setL p) (setL s)) (splitsB (rulesI l) p s):=by
 have hR:=rulesI_ok h hc
 unfold spec_l8Splits.f
 refine Ev.bind (l7Closure_ev l c hl h hc s hs) (Ev.bind (within_set (cloI_ok hR hs) hp) ?_)
 show Ev (fun k=>if ((setL (toldI (rulesI l) p s)).length:Int) > ((setL s).length:Int) then some (decide (((setL (toldI (rulesI l) p s)).length:Int) < ((setL p).length:Int))) else some false) _
 have ht:=told_ok hR hp hs
 obtain ⟨t1,t2⟩:=told_sub hR hp hs hsp
 obtain ⟨q1,q2⟩:=sub_len ht hs t1
 obtain ⟨q3,q4⟩:=sub_len hp ht t2
 unfold splitsB
 by_cases e1:toldI (rulesI l) p s=s
 ·refine Ev.neg (by have:=q2.2 e1;omega) (Ev.const ?_)
  rw [e1];simp
 ·have n1:(setL s).length ≠ (setL (toldI (rulesI l) p s)).length:=fun e=>e1 (q2.1 e)
  refine Ev.pos (by omega) (Ev.const ?_)
  by_cases e2:toldI (rulesI l) p s=p
  ·have:=q4.2 e2.symm
   rw [decide_eq_false (by omega),e2];simp
  ·have n2:(setL (toldI (rulesI l) p s)).length ≠ (setL p).length:=fun e=>e2 (q4.1 e).symm
   rw [decide_eq_true (by omega)]
   simp [e1,e2]
theorem ev_all {α:Type} (f:Nat→α→Option Bool) (p:α→Bool):∀ (l:List α),(∀ d∈l,Ev (fun k=>f k d) (p d))→∃ K,∀ k,K≤k→∀ d∈l,f k d=some (p d)
 | [],_=>⟨0,fun _ _ d hd=>by cases hd⟩
 | a :: l,h=>by
  obtain ⟨K1,hK1⟩:=ev_all f p l (fun x hx=>h x (List.mem_cons_of_mem _ hx))
  obtain ⟨K2,hK2⟩:=h a List.mem_cons_self
  refine ⟨K1 + K2,fun k hk d hd=>?_⟩
  rcases List.mem_cons.1 hd with rfl | hd
  ·exact hK2 k (by omega)
  ·exact hK1 k (by omega) d hd
theorem all_some {α:Type} {f:α→Option Bool} {p:α→Bool} {l:List α} (h:∀ d∈l,f d=some (p d)):(if l.all (fun d=>(f d).isSome)=true then some (l.all (fun d=>(f d).getD false)) else none)=some (l.all p):=by
 rw [if_pos (List.all_eq_true.2 fun d hd=>by rw [h d hd];rfl)]
 congr 1
 exact all_same fun d hd=>by rw [h d hd];rfl
/-! ### all parts of a set -/
theorem parts_dec : ∀ p:Fin 64,(match impl_partsOf.l0 100 (p.val:Int) [] 0 with
  | some q=>q.all (fun x=>decide (0≤x∧x < 64) && hasB (p.val:Int) x) && decide (0 < q.length) && decide (q.length≤1000) && (List.range 64).all (fun s=>!(hasB (p.val:Int) (s:Int)) || q.contains (s:Int))
  | none=>false)=true:=by decide +kernel
theorem parts_ev {p:Int} (hp:isSet p):∃ L:List Int,Ev (fun k=>impl_partsOf.f k p) L∧∀ x,x∈L↔(isSet x∧hasB p x=true):=by
 obtain ⟨m,rfl⟩:=fin_set hp
 have h:=parts_dec m
 cases e:impl_partsOf.l0 100 (m.val:Int) [] 0 with
 | none=>rw [e] at h;cases h
 | some q =>
  rw [e] at h
  simp only [Bool.and_eq_true,decide_eq_true_eq] at h
  obtain ⟨⟨⟨h1,h2⟩,h3⟩,h4⟩:=h
  have hq:∀ x∈q,(0≤x∧x < 64)∧hasB (m.val:Int) x=true:=fun x hx=>by
   have:=List.all_eq_true.1 h1 x hx
   simpa using this
  have hall:(q.all fun x=>decide (0≤x∧x < 64))=true:=List.all_eq_true.2 fun x hx=>by simpa using (hq x hx).1
  refine ⟨sortS cfP q,Ev.of (fun k=>impl_partsOf.mono _ k) (k:=100) ?_,fun x=>?_⟩
  ·unfold impl_partsOf.f
   rw [e]
   show sortP q=_
   unfold sortP
   rw [if_pos ⟨h2,h3,hall⟩]
  ·rw [(sortS_perm cfP (fun x hx=>(hq x hx).1)).mem_iff]
   constructor
   ·intro hx
    exact ⟨(hq x hx).1,(hq x hx).2⟩
   ·rintro ⟨hs,hb⟩
    obtain ⟨s,rfl⟩:=fin_set hs
    have:=List.all_eq_true.1 h4 s.val (List.mem_range.2 s.isLt)
    rw [hb] at this
    simpa using this
theorem lists_dec : ∀ p:Fin 64,(match spec_l8Lists.f 400 (setL (p.val:Int)) with
  | some q=>q.all (fun x=>(List.range 64).any fun s=>hasB (p.val:Int) (s:Int) && (setL (s:Int) == x)) && decide (q.length≤1000) && (List.range 64).all (fun s=>!(hasB (p.val:Int) (s:Int)) || q.contains (setL (s:Int)))
  | none=>false)=true:=by decide +kernel
theorem lists_ev {p:Int} (hp:isSet p):∃ L:List (List Int),Ev (fun k=>spec_l8Lists.f k (setL p)) L∧L.length≤1000∧∀ x,x∈L↔∃ s,isSet s∧hasB p s=true∧x=setL s:=by
 obtain ⟨m,rfl⟩:=fin_set hp
 have h:=lists_dec m
 cases e:spec_l8Lists.f 400 (setL (m.val:Int)) with
 | none=>rw [e] at h;cases h
 | some q =>
  rw [e] at h
  simp only [Bool.and_eq_true,decide_eq_true_eq] at h
  obtain ⟨⟨h1,h3⟩,h4⟩:=h
  refine ⟨q,Ev.of (fun k=>spec_l8Lists.mono _ k) (k:=400) e,h3,fun x=>?_⟩
  constructor
  ·intro hx
   have:=List.all_eq_true.1 h1 x hx
   obtain ⟨s,hs,h5⟩:=List.any_eq_true.1 this
   simp only [Bool.and_eq_true,beq_iff_eq] at h5
   have hlt:=List.mem_range.1 hs
   exact ⟨(s:Int),⟨by omega,by omega⟩,h5.1,h5.2.symm⟩
  ·rintro ⟨s,hs,hb,rfl⟩
   obtain ⟨s,rfl⟩:=fin_set hs
   have:=List.all_eq_true.1 h4 s.val (List.mem_range.2 s.isLt)
   rw [hb] at this
   simpa using this
theorem bool_iff {a b:Bool} (h:a=true↔b=true):a=b:=by cases a <;> cases b <;> simp_all
theorem specNormal_ev (l:List S45) (c:Int) (hl:l.length≤1000) (h:∀ d∈l,depOk c d) (hc:c≤6) (p:Int) (hp:isSet p):Ev (fun k=>spec_l8Normal.f k l (setL p)) (tell (∀ s,isSet s→hasB p s=true→splitsB (rulesI l) p s=false)):=by
 obtain ⟨L,hL,hn,hm⟩:=lists_ev hp
 have hR:=rulesI_ok h hc
 unfold spec_l8Normal.f
 refine Ev.bind hL ?_
 have hr1:∀ (i:Nat) (hi:i < L.length),rd_L1 L (i:Int)=L[i]:=fun i hi=>by simp [rd_L1,hi]
 have loop:=loop_up (n:=L.length) (P:=fun i=>(∀ j,(hj:j < L.length)→j < i→∀ s,isSet s→hasB p s=true→L[j]=setL s→splitsB (rulesI l) p s=false)→Ev (fun k=>spec_l8Normal.l0 k l (setL p) L (L.length:Int) (i:Int)) (tell (∀ s,isSet s→hasB p s=true→splitsB (rulesI l) p s=false))) ?_ ?_
 ·exact loop 0 (Nat.zero_le _) (fun j _ h=>absurd h (Nat.not_lt_zero _))
 ·intro hall
  refine Ev.succ ?_
  simp only [spec_l8Normal.l0]
  refine Ev.neg (by omega) (Ev.const ?_)
  rw [tell_yes]
  intro s hs hb
  obtain ⟨j,hj,hje⟩:=List.getElem_of_mem ((hm (setL s)).2 ⟨s,hs,hb,rfl⟩)
  exact hall j hj hj s hs hb hje
 ·intro i hi ih hall
  obtain ⟨s,hs,hb,he⟩:=(hm L[i]).1 (List.getElem_mem hi)
  have hsp:∀ x∈setL s,x∈setL p:=(mem_has hp hs).1 hb
  refine Ev.succ ?_
  simp only [spec_l8Normal.l0]
  rw [hr1 i hi,he,wrap_add (by omega) (by omega)]
  refine Ev.pos (by omega) (Ev.pos (by omega) (Ev.pos (by omega) (Ev.bind (l8Splits_ev l c hl h hc p s hp hs hsp) ?_)))
  cases hq:splitsB (rulesI l) p s with
  | true=>exact Ev.pos rfl (Ev.const (by rw [tell_no];intro hh;have:=hh s hs hb;rw [hq] at this;cases this))
  | false =>
   refine Ev.neg (by simp) (ih fun j hj hji s2 hs2 hb2 he2=>?_)
   by_cases e:j=i
   ·subst e
    rw [he] at he2
    rw [← setL_inj hs hs2 he2]
    exact hq
   ·exact hall j hj (by omega) s2 hs2 hb2 he2
theorem implNormal_ev (R:List S72) (hR:R.length≤1000) (h:∀ r∈R,ruleSet r) (p:Int) (hp:isSet p):Ev (fun k=>impl_isNormal.f k R p) (tell (∀ s,isSet s→hasB p s=true→splitsB R p s=false)):=by
 obtain ⟨L,hL,hm⟩:=parts_ev hp
 unfold impl_isNormal.f
 refine Ev.bind hL ?_
 have one:∀ s∈L,Ev (fun k=>impl_isNormal_1.f k s R p) (!(splitsB R p s)):=fun s hs=>by
  have hset:=((hm s).1 hs).1
  unfold impl_isNormal_1.f
  refine Ev.bind (closure_ev R hR h s hset) ?_
  have e1:Go.bits .and .i64 (cloI R s) p=toldI R p s:=rfl
  rw [e1]
  by_cases c1:toldI R p s=s
  ·refine Ev.pos c1 (Ev.const ?_)
   simp [splitsB,c1]
  ·refine Ev.neg c1 (Ev.const ?_)
   have c1':(toldI R p s != s)=true:=by simpa using c1
   unfold splitsB
   rw [c1',Bool.true_and]
   cases hh:(toldI R p s == p) with
   | true=>simp only [bne,hh];rfl
   | false=>simp only [bne,hh];rfl
 obtain ⟨K,hK⟩:=ev_all (fun k s=>impl_isNormal_1.f k s R p) (fun s=>!(splitsB R p s)) L one
 refine Ev.bind (a:=L.all fun s=>!(splitsB R p s)) ⟨K,fun k hk=>?_⟩ (Ev.const ?_)
 ·unfold areAll_impl_isNormal_1.f
  exact all_some (f:=fun s=>impl_isNormal_1.f k s R p) (hK k hk)
 ·congr 1
  refine bool_iff ?_
  rw [List.all_eq_true,tell_iff]
  constructor
  ·intro H s hs hb
   simpa using H s ((hm s).2 ⟨hs,hb⟩)
  ·intro H s hs
   obtain ⟨h1,h2⟩:=(hm s).1 hs
   simpa using H s h1 h2
theorem both (l:List S45) (c:Int) (p:List Int) (hl:shortD l) (hp:p.length≤1048576):∃ r:Bool × Bool,Ev (fun k=>spec_IsNormal.f k l c p) r∧Ev (fun k=>impl_IsNormal.f k l c p) r:=by
 unfold spec_IsNormal.f impl_IsNormal.f
 have badE:Ev (fun k=>impl_IsNormal.j0 k l p true) ((false,false):Bool × Bool):=Ev.succ (by simp only [impl_IsNormal.j0];exact Ev.pos (by simp) (Ev.const rfl))
 by_cases g:depsOk l c
 case neg=>exact ⟨(false,false),Ev.bind (l8Part_ev l c p hl (by omega)) (Ev.neg (by rw [tell_no fun h=>g h.1];simp) (Ev.const rfl)),Ev.bind (implGood_ev l c hl) (Ev.neg (by rw [tell_no g];simp) badE)⟩
 have g':=g
 obtain ⟨g1,g2,g3,g4⟩:=g
 by_cases h:ris p c
 case neg=>exact ⟨(false,false),Ev.bind (l8Part_ev l c p hl (by omega)) (Ev.neg (by rw [tell_no fun h2=>h h2.2];simp) (Ev.const rfl)),Ev.bind (implGood_ev l c hl) (Ev.pos (tell_yes g') (Ev.bind (areRising_ev p c (by omega)) (by rw [tell_no h];exact badE)))⟩
 obtain ⟨p1,p2⟩:=setI_ok h g3
 have hR:=rulesI_ok g1 g3
 have hs:=specNormal_ev l c (by omega) g1 g3 (setI p) p1
 rw [p2] at hs
 have hi:=implNormal_ev (rulesI l) (by simp [rulesI];omega) hR (setI p) p1
 refine ⟨(tell (∀ s,isSet s→hasB (setI p) s=true→splitsB (rulesI l) (setI p) s=false),true),Ev.bind (l8Part_ev l c p hl (by omega)) (Ev.pos (tell_yes ⟨g',h⟩) (Ev.bind hs (Ev.const rfl))),
  Ev.bind (implGood_ev l c hl) (Ev.pos (tell_yes g') (Ev.bind (areRising_ev p c (by omega)) ?_))⟩
 rw [tell_yes h]
 refine Ev.succ ?_
 simp only [impl_IsNormal.j0]
 exact Ev.neg (by simp) (Ev.bind (rulesOf_ev l c (by omega) g1 g3) (Ev.bind (setOf_ev p (by omega) (fun x hx=>(ris_mem h x hx).1)) (Ev.bind hi (Ev.const rfl))))
theorem FnExactIsNormal : laws_FnExactIsNormal.Pure:=by
 intro l0 c f w0 w1 w2 hf hz
 obtain ⟨r,h1,h2⟩:=both (cvDependS l0) c f (okDependS_cv hz) hf
 obtain ⟨K1,k1⟩:=h1
 obtain ⟨K2,k2⟩:=h2
 exact ⟨K1 + K2,r,k1 _ (by omega),k2 _ (by omega)⟩
end Go.Proofs.Ytnkdpagkmljbnaa.Pure
