/- What EarsOf's law comes to, in numbers and lists alone: the program tells what the reference tells, whatever is asked. -/
import Derived.Test.YtboligpcbndkjaaPFnExactEarsOfx7
import Derived.Test.YtboligpcbndkjaaEv
namespace Go.Proofs.Ytboligpcbndkjaa.Pure
open Go.RowKit Go.Proofs.Ytboligpcbndkjaa.PFnExactEarsOf Go.Proofs.YtboligpcbndkjaaW.PrintWords Go.Proofs.YtboligpcbndkjaaW.PrintLast Go.Proofs.YtboligpcbndkjaaW.PrintMore
set_option linter.unusedVariables false
set_option linter.unusedSimpArgs false

/-- The numbers of a set, rising. -/
def setL (s:Int):List Int:=((List.range 6).filter (fun k=>s.toNat.testBit k)).map (fun (k:Nat)=>(k:Int))
theorem setL_mem {s x:Int} (h:x∈setL s):0≤x∧x≤5:=by
 simp only [setL,List.mem_map,List.mem_filter,List.mem_range] at h
 obtain ⟨k,⟨hk,_⟩,rfl⟩:=h
 omega
theorem setL_some (s:Int) (h0:0≤s) (h1:s < 64):impl_set_list.f 8 s=some (setL s):=by
 have key:∀ n:Fin 64,impl_set_list.f 8 (n.val:Int)=some (setL (n.val:Int)):=by decide +kernel
 have:=key ⟨s.toNat,by omega⟩
 simpa [Int.toNat_of_nonneg h0] using this
theorem setL_ev (s:Int) (h0:0≤s) (h1:s < 64):Ev (fun k=>impl_set_list.f k s) (setL s):=Ev.of (fun k=>impl_set_list.mono s k) (setL_some s h0 h1)
/-- A number put to its place, once. -/
def putL (l:List Int) (n:Int):List Int:=if l.contains n then l else l.take (l.takeWhile (fun x=>decide (x < n))).length++n :: l.drop (l.takeWhile (fun x=>decide (x < n))).length
def orB (s n:Int):Int:=Go.bits .or .i64 s (shl .i64 1 n)
def isSet (s:Int):Prop:=0≤s∧s < 64
theorem fin_set {s:Int} (h:isSet s):∃ m:Fin 64,s=(m.val:Int):=⟨⟨s.toNat,by have:=h.1;have:=h.2;omega⟩,by have:=h.1;simp;omega⟩
theorem fin_num {n:Int} (h0:0≤n) (h5:n≤5):∃ m:Fin 6,n=(m.val:Int):=⟨⟨n.toNat,by omega⟩,by simp;omega⟩
theorem orB_ok {s n:Int} (h:isSet s) (h0:0≤n) (h5:n≤5):isSet (orB s n)∧setL (orB s n)=putL (setL s) n:=by
 obtain ⟨a,rfl⟩:=fin_set h
 obtain ⟨b,rfl⟩:=fin_num h0 h5
 have key:∀ a:Fin 64,∀ b:Fin 6,(0≤orB (a.val:Int) (b.val:Int)∧orB (a.val:Int) (b.val:Int) < 64)∧setL (orB (a.val:Int) (b.val:Int))=putL (setL (a.val:Int)) (b.val:Int):=by decide +kernel
 exact key a b
theorem setL_nil {s:Int} (h:isSet s):s=0↔setL s=[]:=by
 obtain ⟨a,rfl⟩:=fin_set h
 have key:∀ a:Fin 64,(a.val:Int)=0↔setL (a.val:Int)=[]:=by decide +kernel
 exact key a
theorem setL_len (s:Int):(setL s).length≤6:=by
 unfold setL
 rw [List.length_map]
 exact Nat.le_trans (List.length_filter_le _ _) (by simp)
theorem putL_len (l:List Int) (n:Int):(putL l n).length≤l.length + 1:=by
 unfold putL
 split
 ·omega
 ·simp;omega

def hasB (a b:Int):Bool:=Go.bits .and .i64 a b == b
def orS (a b:Int):Int:=Go.bits .or .i64 a b
theorem mem_setL {m:Fin 64} {x:Int}:x∈setL (m.val:Int)↔∃ k:Fin 6,x=(k.val:Int)∧m.val.testBit k.val=true:=by
 simp only [setL,List.mem_map,List.mem_filter,List.mem_range,Int.toNat_natCast]
 constructor
 ·rintro ⟨k,⟨hk,hb⟩,rfl⟩;exact ⟨⟨k,hk⟩,rfl,hb⟩
 ·rintro ⟨k,rfl,hb⟩;exact ⟨k.val,⟨k.isLt,hb⟩,rfl⟩
theorem orS_set {a b:Int} (ha:isSet a) (hb:isSet b):isSet (orS a b):=by
 obtain ⟨a,rfl⟩:=fin_set ha
 obtain ⟨b,rfl⟩:=fin_set hb
 have key:∀ a b:Fin 64,0≤orS (a.val:Int) (b.val:Int)∧orS (a.val:Int) (b.val:Int) < 64:=by decide +kernel
 exact key a b
theorem hasB_iff {a b:Int} (ha:isSet a) (hb:isSet b):hasB a b=(setL b).all (fun x=>(setL a).contains x):=by
 obtain ⟨a,rfl⟩:=fin_set ha
 obtain ⟨b,rfl⟩:=fin_set hb
 have key:∀ a b:Fin 64,hasB (a.val:Int) (b.val:Int)=(setL (b.val:Int)).all (fun x=>(setL (a.val:Int)).contains x):=by decide +kernel
 exact key a b
theorem orS_fold {a b:Int} (ha:isSet a) (hb:isSet b):setL (orS a b)=(setL b).foldl putL (setL a):=by
 obtain ⟨a,rfl⟩:=fin_set ha
 obtain ⟨b,rfl⟩:=fin_set hb
 have key:∀ a b:Fin 64,setL (orS (a.val:Int) (b.val:Int))=(setL (b.val:Int)).foldl putL (setL (a.val:Int)):=by decide +kernel
 exact key a b
theorem orS_len {a b:Int} (ha:isSet a) (hb:isSet b):(setL a).length≤(setL (orS a b)).length∧((setL a).length=(setL (orS a b)).length↔orS a b=a):=by
 obtain ⟨a,rfl⟩:=fin_set ha
 obtain ⟨b,rfl⟩:=fin_set hb
 have key:∀ a b:Fin 64,(setL (a.val:Int)).length≤(setL (orS (a.val:Int) (b.val:Int))).length∧((setL (a.val:Int)).length=(setL (orS (a.val:Int) (b.val:Int))).length↔orS (a.val:Int) (b.val:Int)=(a.val:Int)):=by decide +kernel
 exact key a b
theorem setL_inj {a b:Int} (ha:isSet a) (hb:isSet b) (h:setL a=setL b):a=b:=by
 obtain ⟨a,rfl⟩:=fin_set ha
 obtain ⟨b,rfl⟩:=fin_set hb
 have key:∀ a b:Fin 64,setL (a.val:Int)=setL (b.val:Int)→(a.val:Int)=(b.val:Int):=by decide +kernel
 exact key a b h
/-- The set of a list. -/
def setI (l:List Int):Int:=l.foldl orB 0
theorem orB_foldl : ∀ (l:List Int) (s:Int),isSet s→(∀ x∈l,0≤x∧x≤5)→isSet (l.foldl orB s)∧setL (l.foldl orB s)=l.foldl putL (setL s)
 | [],s,hs,_=>⟨hs,rfl⟩
 | n :: l,s,hs,h=>by
  obtain ⟨h0,h5⟩:=h n List.mem_cons_self
  obtain ⟨k1,k2⟩:=orB_ok hs h0 h5
  obtain ⟨j1,j2⟩:=orB_foldl l (orB s n) k1 (fun x hx=>h x (List.mem_cons_of_mem _ hx))
  exact ⟨j1,by rw [List.foldl_cons,j2,k2];rfl⟩
/-- Rising numbers of so many. -/
def ris (l:List Int) (c:Int):Prop:=∀ i,(hi:i < l.length)→0≤l[i]∧l[i] < c∧(0 < i→l[i - 1]'(by omega) < l[i])
theorem ris_tail {a:Int} {l:List Int} {c:Int} (h:ris (a :: l) c):ris l c:=by
 intro i hi
 have:=h (i + 1) (by simp;omega)
 simp only [List.getElem_cons_succ,Nat.add_sub_cancel] at this
 refine ⟨this.1,this.2.1,fun hp=>?_⟩
 have h3:=this.2.2 (by omega)
 obtain ⟨j,rfl⟩:∃ j,i=j + 1:=⟨i - 1,by omega⟩
 simpa using h3
theorem ris_mem {l:List Int} {c:Int} (h:ris l c):∀ x∈l,0≤x∧x < c:=by
 intro x hx
 obtain ⟨i,hi,rfl⟩:=List.getElem_of_mem hx
 exact ⟨(h i hi).1,(h i hi).2.1⟩
theorem ris_lt : ∀ {l:List Int} {a c:Int},ris (a :: l) c→∀ x∈l,a < x
 | [],_,_,_=>fun x hx=>by cases hx
 | b :: l,a,c,h=>by
  have hab:a < b:=by have:=(h 1 (by simp)).2.2 (by omega);simpa using this
  intro x hx
  rcases List.mem_cons.1 hx with rfl | hx
  ·exact hab
  ·exact Int.lt_trans hab (ris_lt (ris_tail h) x hx)
theorem ris_zero {c:Int} (h:c≤0) {l:List Int} (hl:ris l c):l=[]:=by
 cases l with
 | nil=>rfl
 | cons a l=>have:=hl 0 (by simp);simp at this;omega
/-- Numbers put to their places behind those that are less: at the end. -/
theorem putL_end (p:List Int) (n:Int) (h:∀ x∈p,x < n):putL p n=p++[n]:=by
 have hc:p.contains n=false:=by
  rw [Bool.eq_false_iff]
  intro hn
  have:=h n (by simpa using hn)
  omega
 have ht:p.takeWhile (fun x=>decide (x < n))=p:=by
  clear hc
  induction p with
  | nil=>rfl
  | cons a p ih=>rw [List.takeWhile_cons,if_pos (by simpa using h a List.mem_cons_self),ih (fun x hx=>h x (List.mem_cons_of_mem _ hx))]
 unfold putL
 rw [hc,ht,List.take_of_length_le (Nat.le_refl _),List.drop_of_length_le (Nat.le_refl _)]
 rfl
theorem foldl_putL : ∀ (l p:List Int) (c:Int),ris l c→(∀ x∈p,∀ y∈l,x < y)→l.foldl putL p=p++l
 | [],p,_,_,_=>by simp
 | n :: l,p,c,h,hp=>by
  rw [List.foldl_cons,putL_end p n (fun x hx=>hp x hx n List.mem_cons_self),foldl_putL l (p++[n]) c (ris_tail h) ?_,List.append_assoc]
  ·rfl
  ·intro x hx y hy
   rcases List.mem_append.1 hx with hx | hx
   ·exact hp x hx y (List.mem_cons_of_mem _ hy)
   ·obtain rfl:x=n:=by simpa using hx
    exact ris_lt h y hy
theorem setI_ok {l:List Int} {c:Int} (h:ris l c) (hc:c≤6):isSet (setI l)∧setL (setI l)=l:=by
 obtain ⟨k1,k2⟩:=orB_foldl l 0 ⟨by omega,by omega⟩ (fun x hx=>by have:=ris_mem h x hx;omega)
 refine ⟨k1,?_⟩
 unfold setI
 rw [k2,show setL 0=[] from by decide +kernel,foldl_putL l [] c h (fun x hx=>by cases hx)]
 rfl
theorem ris_len {l:List Int} {c:Int} (h:ris l c) (hc:c≤6):l.length≤6:=by
 rw [← (setI_ok h hc).2];exact setL_len _
def andS (a b:Int):Int:=Go.bits .and .i64 a b
def minusS (a b:Int):Int:=Go.bits .andNot .i64 a b
theorem andS_eq {a b:Int} (ha:isSet a) (hb:isSet b):isSet (andS a b)∧setL (andS a b)=(setL a).filter (fun x=>(setL b).contains x):=by
 obtain ⟨a,rfl⟩:=fin_set ha
 obtain ⟨b,rfl⟩:=fin_set hb
 have key:∀ a b:Fin 64,(0≤andS (a.val:Int) (b.val:Int)∧andS (a.val:Int) (b.val:Int) < 64)∧setL (andS (a.val:Int) (b.val:Int))=(setL (a.val:Int)).filter (fun x=>(setL (b.val:Int)).contains x):=by decide +kernel
 exact key a b
theorem minusS_eq {a b:Int} (ha:isSet a) (hb:isSet b):isSet (minusS a b)∧setL (minusS a b)=(setL a).filter (fun x=>!(setL b).contains x):=by
 obtain ⟨a,rfl⟩:=fin_set ha
 obtain ⟨b,rfl⟩:=fin_set hb
 have key:∀ a b:Fin 64,(0≤minusS (a.val:Int) (b.val:Int)∧minusS (a.val:Int) (b.val:Int) < 64)∧setL (minusS (a.val:Int) (b.val:Int))=(setL (a.val:Int)).filter (fun x=>!(setL (b.val:Int)).contains x):=by decide +kernel
 exact key a b
theorem mem_putL (l:List Int) (n x:Int):x∈putL l n↔x=n ∨ x∈l:=by
 unfold putL
 split
 ·rename_i h
  have h2:n∈l:=by simpa using h
  exact ⟨.inr,fun h3=>h3.elim (fun e=>e ▸ h2) id⟩
 ·generalize (l.takeWhile fun y=>decide (y < n)).length=m
  rw [List.mem_append,List.mem_cons]
  have e:x∈l↔x∈l.take m ∨ x∈l.drop m:=by rw [← List.mem_append,List.take_append_drop]
  rw [e]
  exact ⟨fun h=>h.elim (fun h=>.inr (.inl h)) (fun h=>h.elim .inl (fun h=>.inr (.inr h))),fun h=>h.elim (fun h=>.inr (.inl h)) (fun h=>h.elim .inl (fun h=>.inr (.inr h)))⟩
theorem mem_foldl_putL : ∀ (l p:List Int) (x:Int),x∈l.foldl putL p↔x∈p ∨ x∈l
 | [],p,x=>by simp
 | n :: l,p,x=>by
  rw [List.foldl_cons,mem_foldl_putL l,mem_putL,List.mem_cons]
  exact ⟨fun h=>h.elim (fun h=>h.elim (fun h=>.inr (.inl h)) .inl) (fun h=>.inr (.inr h)),fun h=>h.elim (fun h=>.inl (.inr h)) (fun h=>h.elim (fun h=>.inl (.inl h)) .inr)⟩
theorem mem_or {a b:Int} (ha:isSet a) (hb:isSet b) (x:Int):x∈setL (orS a b)↔x∈setL a ∨ x∈setL b:=by rw [orS_fold ha hb,mem_foldl_putL]
theorem mem_and {a b:Int} (ha:isSet a) (hb:isSet b) (x:Int):x∈setL (andS a b)↔x∈setL a∧x∈setL b:=by rw [(andS_eq ha hb).2,List.mem_filter];simp
theorem mem_minus {a b:Int} (ha:isSet a) (hb:isSet b) (x:Int):x∈setL (minusS a b)↔x∈setL a∧x ∉ setL b:=by rw [(minusS_eq ha hb).2,List.mem_filter];simp
theorem mem_has {a b:Int} (ha:isSet a) (hb:isSet b):hasB a b=true↔∀ x∈setL b,x∈setL a:=by rw [hasB_iff ha hb,List.all_eq_true];simp
theorem setL_pw (s:Int):(setL s).Pairwise (· < ·):=by
 unfold setL
 rw [List.pairwise_map]
 refine List.Pairwise.imp (fun h=>by omega) ((List.pairwise_lt_range (n:=6)).filter _)
theorem pw_eq : ∀ {a b:List Int},a.Pairwise (· < ·)→b.Pairwise (· < ·)→(∀ x,x∈a↔x∈b)→a=b
 | [],[],_,_,_=>rfl
 | [],y :: b,_,_,h=>absurd ((h y).2 List.mem_cons_self) (by simp)
 | x :: a,[],_,_,h=>absurd ((h x).1 List.mem_cons_self) (by simp)
 | x :: a,y :: b,ha,hb,h=>by
  obtain ⟨hx,ha2⟩:=List.pairwise_cons.1 ha
  obtain ⟨hy,hb2⟩:=List.pairwise_cons.1 hb
  have e:x=y:=by
   rcases List.mem_cons.1 ((h x).1 List.mem_cons_self) with e | m
   ·exact e
   ·rcases List.mem_cons.1 ((h y).2 List.mem_cons_self) with e | m2
    ·exact e.symm
    ·have:=hy x m;have:=hx y m2;omega
  subst e
  rw [pw_eq ha2 hb2 fun z=>?_]
  constructor
  ·intro hz
   rcases List.mem_cons.1 ((h z).1 (List.mem_cons_of_mem _ hz)) with e | m
   ·have:=hx z hz;omega
   ·exact m
  ·intro hz
   rcases List.mem_cons.1 ((h z).2 (List.mem_cons_of_mem _ hz)) with e | m
   ·have:=hy z hz;omega
   ·exact m
/-- A set has another one: it is as great just if it is the same. -/
theorem sub_len {a b:Int} (ha:isSet a) (hb:isSet b) (h:∀ x∈setL b,x∈setL a):(setL b).length≤(setL a).length∧((setL b).length=(setL a).length↔a=b):=by
 obtain ⟨a,rfl⟩:=fin_set ha
 obtain ⟨b,rfl⟩:=fin_set hb
 have key:∀ a b:Fin 64,(∀ x∈setL (b.val:Int),x∈setL (a.val:Int))→(setL (b.val:Int)).length≤(setL (a.val:Int)).length∧((setL (b.val:Int)).length=(setL (a.val:Int)).length↔(a.val:Int)=(b.val:Int)):=by decide +kernel
 exact key a b h
theorem l1Has_ev (l:List Int) (x:Int) (hl:l.length≤4194304):Ev (fun k=>spec_l1Has.f k l x) (l.contains x):=by
 have loop:=loop_up (n:=l.length) (P:=fun i=>Ev (fun k=>spec_l1Has.l0 k x l (l.length:Int) (i:Int)) ((l.drop i).contains x)) ?_ ?_
 ·unfold spec_l1Has.f
  exact loop 0 (Nat.zero_le _)
 ·refine Ev.succ ?_
  simp only [spec_l1Has.l0]
  exact Ev.neg (by omega) (Ev.const (by simp))
 ·intro i hi ih
  refine Ev.succ ?_
  simp only [spec_l1Has.l0]
  refine Ev.pos (by omega) (Ev.pos (by omega) (Ev.pos (by omega) ?_))
  rw [List.drop_eq_getElem_cons hi,List.contains_cons,rd_nat hi,wrap_add (by omega) (by omega)]
  by_cases h:l[i]=x
  ·exact Ev.pos h (Ev.const (by simp [h]))
  ·have h':(x == l[i])=false:=by simpa using fun e=>h e.symm
   rw [h',Bool.false_or]
   exact Ev.neg h ih
theorem takeWhile_at (p:Int→Bool):∀ (l:List Int) (i:Nat),i≤l.length→(∀ j,(h:j < l.length)→j < i→p l[j]=true)→(∀ h:i < l.length,p l[i]=false)→(l.takeWhile p).length=i
 | [],i,hi,_,_=>by simp at hi;simp [hi]
 | a :: l,0,_,_,h2=>by have:=h2 (by simp);simp at this;simp [List.takeWhile_cons,this]
 | a :: l,i + 1,hi,h1,h2=>by
  have h0:=h1 0 (by simp) (by omega)
  simp at h0
  rw [List.takeWhile_cons,h0]
  simp only [if_true,List.length_cons]
  rw [takeWhile_at p l i (by simpa using hi) (fun j h hj=>by have:=h1 (j + 1) (by simpa using h) (by omega);simpa using this) (fun h=>by have:=h2 (by simpa using h);simpa using this)]
theorem l7Put_ev (l:List Int) (n:Int) (hl:l.length≤1000):Ev (fun k=>spec_l7Put.f k l n) (putL l n):=by
 unfold spec_l7Put.f
 refine Ev.bind (l1Has_ev l n (by omega)) ?_
 by_cases hc:l.contains n=true
 ·rw [putL,if_pos hc]
  exact Ev.pos hc (Ev.const rfl)
 ·refine Ev.neg hc ?_
  rw [putL,if_neg hc]
  have done:∀ i:Nat,i≤l.length→(∀ j,(h:j < l.length)→j < i→decide (l[j] < n)=true)→(∀ h:i < l.length,decide (l[i] < n)=false)→l.take (l.takeWhile (fun x=>decide (x < n))).length++n :: l.drop (l.takeWhile (fun x=>decide (x < n))).length=([]++l.take (i:Int).toNat)++[n]++l.drop (i:Int).toNat:=by
   intro i hi h1 h2
   rw [takeWhile_at _ l i hi h1 h2];simp
  have loop:=loop_up (n:=l.length) (P:=fun i=>(∀ j,(h:j < l.length)→j < i→decide (l[j] < n)=true)→Ev (fun k=>spec_l7Put.l0 k l n (i:Int)) (l.take (l.takeWhile (fun x=>decide (x < n))).length++n :: l.drop (l.takeWhile (fun x=>decide (x < n))).length)) ?_ ?_
  ·exact loop 0 (Nat.zero_le _) (fun j _ h=>absurd h (Nat.not_lt_zero _))
  ·intro h1
   refine Ev.succ ?_
   rw [done l.length (Nat.le_refl _) h1 (fun h=>absurd h (Nat.lt_irrefl _))]
   simp only [spec_l7Put.l0,Option.bind_some]
   refine Ev.neg (by omega) (Ev.pos (by omega) (Ev.pos (by omega) (Ev.pos (by simp;omega) (Ev.pos (by simp;omega) (Ev.pos (by simp;omega) (Ev.const rfl))))))
  ·intro i hi ih h1
   refine Ev.succ ?_
   simp only [spec_l7Put.l0,Option.bind_some]
   refine Ev.pos (by omega) (Ev.pos (by omega) ?_)
   rw [rd_nat hi,wrap_add (by omega) (by omega)]
   by_cases h:l[i] < n
   ·refine Ev.pos h (ih (fun j hj hji=>?_))
    by_cases e:j=i
    ·subst e;simpa using h
    ·exact h1 j hj (by omega)
   ·refine Ev.neg h ?_
    rw [done i (by omega) h1 (fun _=>by simpa using h)]
    exact Ev.pos (by omega) (Ev.pos (by simp;omega) (Ev.pos (by simp;omega) (Ev.pos (by simp;omega) (Ev.const rfl))))
open Classical in
noncomputable def tell (p : Prop) : Bool := decide p
theorem tell_yes {p:Prop} (h:p):tell p=true:=by simp [tell,h]
theorem tell_no {p:Prop} (h:¬ p):tell p=false:=by simp [tell,h]
theorem tell_iff {p:Prop}:tell p=true↔p:=by simp [tell]
theorem l7All_ev (a b:List Int) (ha:a.length≤4194304) (hb:b.length≤4194304):Ev (fun k=>spec_l7All.f k a b) (b.all fun x=>a.contains x):=by
 have loop:=loop_up (n:=b.length) (P:=fun i=>Ev (fun k=>spec_l7All.l0 k a b (b.length:Int) (i:Int)) ((b.drop i).all fun x=>a.contains x)) ?_ ?_
 ·exact loop 0 (Nat.zero_le _)
 ·refine Ev.succ ?_
  simp only [spec_l7All.l0]
  exact Ev.neg (by omega) (Ev.const (by simp))
 ·intro i hi ih
  refine Ev.succ ?_
  simp only [spec_l7All.l0]
  rw [rd_nat hi,wrap_add (by omega) (by omega),List.drop_eq_getElem_cons hi,List.all_cons]
  refine Ev.pos (by omega) (Ev.pos (by omega) (Ev.pos (by omega) (Ev.bind (l1Has_ev a b[i] ha) ?_)))
  cases h:a.contains b[i] with
  | true=>exact Ev.pos rfl (by simpa using ih)
  | false=>exact Ev.neg (by simp) (Ev.const (by simp))
theorem setOf_ev (l:List Int) (hl:l.length≤4194304) (h:∀ x∈l,0≤x):Ev (fun k=>impl_setOf.f k l) (setI l):=by
 have loop:=loop_up (n:=l.length) (P:=fun i=>∀ s:Int,(l.drop i).foldl orB s=setI l→Ev (fun k=>impl_setOf.l0 k s l (l.length:Int) (i:Int)) (setI l)) ?_ ?_
 ·exact loop 0 (Nat.zero_le _) 0 rfl
 ·intro s hs
  refine Ev.succ ?_
  simp only [impl_setOf.l0]
  exact Ev.neg (by omega) (Ev.const (by rw [← hs];simp))
 ·intro i hi ih s hs
  refine Ev.succ ?_
  simp only [impl_setOf.l0]
  rw [rd_nat hi,wrap_add (by omega) (by omega)]
  refine Ev.pos (by omega) (Ev.pos (by omega) (Ev.pos (by omega) (Ev.pos (h _ (List.getElem_mem hi)) (ih _ ?_))))
  rw [← hs,List.drop_eq_getElem_cons hi];rfl
/-- The reference's rounds, on lists. -/
theorem l7Put_set (s n:Int) (hs:isSet s) (h0:0≤n) (h5:n≤5):Ev (fun k=>spec_l7Put.f k (setL s) n) (setL (orB s n)):=by
 rw [(orB_ok hs h0 h5).2]
 exact l7Put_ev (setL s) n (by have:=setL_len s;omega)
/-! ### chapter 10: questions -/
def tabOk (t:List Int):Prop:=(∀ x∈t,1≤x∧x≤3)∧1≤t.length∧t.length≤4
def atomOk (t:List Int) (a:S97):Prop:=0≤a.f0∧a.f0 < (t.length:Int)∧(a.f1.length:Int)=rd t a.f0∧∀ v∈a.f1,0≤v∧v≤5
def varsFrom (s:Int) (l:List S97):Int:=l.foldl (fun s a=>a.f1.foldl orB s) s
structure queryOk (h : List Int) (l : List S97) (t : List Int) : Prop where
 tab:tabOk t
 len1:1≤l.length
 len5:l.length≤5
 head6:h.length≤6
 atoms:∀ a∈l,atomOk t a
 heads:∀ v∈h,v∈setL (varsFrom 0 l)
theorem rdA {l:List S97} {i:Nat} (h:i < l.length):rd_T97 l (i:Int)=l[i]:=by simp [rd_T97,h]
theorem ev_all {α:Type} (f:Nat→α→Option Bool) (p:α→Bool):∀ (l:List α),(∀ d∈l,Ev (fun k=>f k d) (p d))→∃ K,∀ k,K≤k→∀ d∈l,f k d=some (p d)
 | [],_=>⟨0,fun _ _ d hd=>by cases hd⟩
 | a :: l,h=>by
  obtain ⟨K1,hK1⟩:=ev_all f p l (fun x hx=>h x (List.mem_cons_of_mem _ hx))
  obtain ⟨K2,hK2⟩:=h a List.mem_cons_self
  refine ⟨K1 + K2,fun k hk d hd=>?_⟩
  rcases List.mem_cons.1 hd with rfl | hd
  ·exact hK2 k (by omega)
  ·exact hK1 k (by omega) d hd
theorem all_some {α:Type} {f:α→Option Bool} {p:α→Bool} {l:List α} (h:∀ d∈l,f d=some (p d)):(if l.all (fun d=>(f d).isSome)=true then some (l.all (fun d=>(f d).getD false)) else none)=some (l.all p):=by
 rw [if_pos (List.all_eq_true.2 fun d hd=>by rw [h d hd];rfl)]
 congr 1
 exact all_same fun d hd=>by rw [h d hd];rfl
theorem varsFrom_ok : ∀ (l:List S97) (s:Int),isSet s→(∀ a∈l,∀ v∈a.f1,0≤v∧v≤5)→isSet (varsFrom s l)
 | [],s,hs,_=>hs
 | a :: l,s,hs,h=>varsFrom_ok l (a.f1.foldl orB s) (orB_foldl a.f1 s hs (h a List.mem_cons_self)).1 (fun x hx=>h x (List.mem_cons_of_mem _ hx))
theorem setI_set {l:List Int} (h:∀ v∈l,0≤v∧v≤5):isSet (setI l)∧setL (setI l)=l.foldl putL []:=by
 obtain ⟨k1,k2⟩:=orB_foldl l 0 ⟨by omega,by omega⟩ h
 exact ⟨k1,by rw [show setI l=l.foldl orB 0 from rfl,k2,show setL 0=[] from by decide +kernel]⟩
theorem orS_setI {s:Int} {l:List Int} (hs:isSet s) (h:∀ v∈l,0≤v∧v≤5):orS s (setI l)=l.foldl orB s:=by
 obtain ⟨k1,k2⟩:=orB_foldl l s hs h
 obtain ⟨j1,j2⟩:=setI_set h
 refine setL_inj (orS_set hs j1) k1 (pw_eq (setL_pw _) (setL_pw _) fun x=>?_)
 rw [mem_or hs j1,j2,k2,mem_foldl_putL,mem_foldl_putL]
 simp
theorem l10Tables_ev (t:List Int) (hl:t.length≤1048576):Ev (fun k=>spec_l10Tables.f k t) (tell (tabOk t)):=by
 have loop:=loop_up (n:=t.length) (P:=fun i=>(∀ j,(hj:j < t.length)→j < i→1≤t[j]∧t[j]≤3)→Ev (fun k=>spec_l10Tables.l0 k t t (t.length:Int) (i:Int)) (tell (tabOk t))) ?_ ?_
 ·exact loop 0 (Nat.zero_le _) (fun j _ h=>absurd h (Nat.not_lt_zero _))
 ·intro g
  have all:∀ x∈t,1≤x∧x≤3:=fun x hx=>by obtain ⟨i,hi,rfl⟩:=List.getElem_of_mem hx;exact g i hi hi
  refine Ev.succ ?_
  simp only [spec_l10Tables.l0,spec_l1In.f]
  refine Ev.neg (by omega) ?_
  by_cases h1:(t.length:Int) ≥ 1
  ·refine Ev.bind (Ev.const (if_pos h1)) (Ev.const ?_)
   congr 1
   rw [Bool.eq_iff_iff,decide_eq_true_iff,tell_iff]
   exact ⟨fun h=>⟨all,by omega,by omega⟩,fun h=>by have:=h.2.2;omega⟩
  ·exact Ev.bind (Ev.const (if_neg h1)) (Ev.const (by rw [tell_no fun h=>h1 (by have:=h.2.1;omega)]))
 ·intro i hi ih g
  refine Ev.succ ?_
  simp only [spec_l10Tables.l0,spec_l1In.f]
  rw [rd_nat hi,wrap_add (by omega) (by omega)]
  refine Ev.pos (by omega) (Ev.pos (by omega) (Ev.pos (by omega) ?_))
  have bad:¬ (1≤t[i]∧t[i]≤3)→tell (tabOk t)=false:=fun h=>tell_no fun h2=>h (h2.1 _ (List.getElem_mem hi))
  by_cases h1:t[i] ≥ 1
  case neg=>exact Ev.bind (Ev.const (if_neg h1)) (Ev.neg (by simp) (Ev.const (by rw [bad (by omega)])))
  by_cases h2:t[i]≤3
  case neg=>exact Ev.bind (Ev.const (by rw [if_pos h1,decide_eq_false h2])) (Ev.neg (by simp) (Ev.const (by rw [bad (by omega)])))
  refine Ev.bind (Ev.const (by rw [if_pos h1,decide_eq_true h2])) (Ev.pos rfl (ih fun j hj hji=>?_))
  by_cases e:j=i
  ·subst e;exact ⟨h1,h2⟩
  ·exact g j hj (by omega)
theorem within_some (x a b:Int):impl_within.f x a b=some (decide (a≤x∧x≤b)):=by
 unfold impl_within.f
 by_cases h1:a≤x <;> simp [h1]
theorem areTables_some (t:List Int):impl_areTables.f t=some (tell (tabOk t)):=by
 unfold impl_areTables.f
 rw [within_some]
 simp only [Option.bind_some]
 have e:areAll_impl_areTables_1.f t=some (t.all fun x=>decide (1≤x∧x≤3)):=by
  unfold areAll_impl_areTables_1.f
  exact all_some fun d _=>by unfold impl_areTables_1.f;rw [within_some];rfl
 by_cases h1:(1:Int)≤t.length∧(t.length:Int)≤4
 ·rw [if_pos (by simpa using h1),e]
  simp only [Option.bind_some]
  congr 1
  rw [Bool.eq_iff_iff,List.all_eq_true,tell_iff]
  exact ⟨fun h=>⟨fun x hx=>by simpa using h x hx,by omega,by omega⟩,fun h x hx=>by simpa using h.1 x hx⟩
 ·rw [if_neg (by simpa using h1),tell_no fun h=>h1 ⟨by have:=h.2.1;omega,by have:=h.2.2;omega⟩]
theorem l10Vars_ev (h:List Int) (l:List S97) (hl:l.length≤1000) (hx:∀ a∈l,a.f1.length≤1000∧∀ v∈a.f1,0≤v∧v≤5):Ev (fun k=>spec_l10Vars.f k h l) (setL (varsFrom 0 l)):=by
 have loop:=loop_up (n:=l.length) (P:=fun i=>∀ s,isSet s→varsFrom s (l.drop i)=varsFrom 0 l→Ev (fun k=>spec_l10Vars.l0 k (setL s) l (l.length:Int) (i:Int)) (setL (varsFrom 0 l))) ?_ ?_
 ·have:=loop 0 (Nat.zero_le _) 0 ⟨by omega,by omega⟩ rfl
  rw [show setL 0=[] from by decide +kernel] at this
  exact this
 ·intro s hs e
  refine Ev.succ ?_
  simp only [spec_l10Vars.l0]
  exact Ev.neg (by omega) (Ev.const (by rw [← e];simp [varsFrom]))
 ·intro i hi ih s hs e
  obtain ⟨hln,hv⟩:=hx _ (List.getElem_mem hi)
  refine Ev.succ ?_
  simp only [spec_l10Vars.l0]
  rw [rdA hi]
  refine Ev.pos (by omega) (Ev.pos (by omega) (Ev.pos (by omega) ?_))
  rw [List.drop_eq_getElem_cons hi] at e
  have inner:=loop_up (n:=l[i].f1.length) (P:=fun j=>∀ u,isSet u→(l[i].f1.drop j).foldl orB u=l[i].f1.foldl orB s→Ev (fun k=>spec_l10Vars.l1 k (setL u) l (l.length:Int) (i:Int) l[i].f1 (l[i].f1.length:Int) (j:Int)) (setL (varsFrom 0 l))) ?_ ?_
  ·exact inner 0 (Nat.zero_le _) s hs rfl
  ·intro u hu e2
   refine Ev.succ ?_
   simp only [spec_l10Vars.l1]
   rw [wrap_add (a:=(i:Int)) (by omega) (by omega)]
   refine Ev.neg (by omega) (ih u hu ?_)
   rw [← e]
   have:u=l[i].f1.foldl orB s:=by simpa using e2
   rw [this];rfl
  ·intro j hj ihj u hu e2
   have hm:=hv _ (List.getElem_mem hj)
   refine Ev.succ ?_
   simp only [spec_l10Vars.l1]
   rw [rd_nat hj,wrap_add (a:=(j:Int)) (by omega) (by omega)]
   refine Ev.pos (by omega) (Ev.pos (by omega) (Ev.pos (by omega) (Ev.bind (l7Put_set u _ hu hm.1 hm.2) (ihj _ (orB_ok hu hm.1 hm.2).1 ?_))))
   rw [← e2,List.drop_eq_getElem_cons hj];rfl
theorem vars_ev (l:List S97) (hl:l.length≤1000) (hx:∀ a∈l,a.f1.length≤1000∧∀ v∈a.f1,0≤v∧v≤5):Ev (fun k=>impl_vars.f k l) (setL (varsFrom 0 l)):=by
 have hok:=varsFrom_ok l 0 ⟨by omega,by omega⟩ (fun a ha=>(hx a ha).2)
 have loop:=loop_up (n:=l.length) (P:=fun i=>∀ s,isSet s→varsFrom s (l.drop i)=varsFrom 0 l→Ev (fun k=>impl_vars.l0 k s l (l.length:Int) (i:Int)) (setL (varsFrom 0 l))) ?_ ?_
 ·exact loop 0 (Nat.zero_le _) 0 ⟨by omega,by omega⟩ rfl
 ·intro s hs e
  refine Ev.succ ?_
  simp only [impl_vars.l0]
  have es:s=varsFrom 0 l:=by rw [← e];simp [varsFrom]
  rw [es]
  exact Ev.neg (by omega) (Ev.bind (setL_ev _ hok.1 hok.2) (Ev.const rfl))
 ·intro i hi ih s hs e
  obtain ⟨hln,hv⟩:=hx _ (List.getElem_mem hi)
  refine Ev.succ ?_
  simp only [impl_vars.l0]
  rw [rdA hi,wrap_add (by omega) (by omega)]
  rw [List.drop_eq_getElem_cons hi] at e
  refine Ev.pos (by omega) (Ev.pos (by omega) (Ev.pos (by omega) (Ev.bind (setOf_ev l[i].f1 (by omega) (fun x hx=>(hv x hx).1)) ?_)))
  have e2:Go.bits .or .i64 s (setI l[i].f1)=l[i].f1.foldl orB s:=orS_setI hs hv
  rw [e2]
  exact ih _ (orB_foldl l[i].f1 s hs hv).1 (by rw [← e];rfl)
theorem contains_ev (l:List Int) (x:Int) (hl:l.length≤1048576):Ev (fun k=>slices_Contains_int_int.f k l x) (l.contains x):=by
 have loop:=loop_up (n:=l.length) (P:=fun i=>EvX (fun k=>slices_Index_int_int.l0 k l x (l.length:Int) (i:Int)) (fun r=>r ≥ 0↔x∈l.drop i)) ?_ ?_
 ·obtain ⟨r,hr,hp⟩:=loop 0 (Nat.zero_le _)
  unfold slices_Contains_int_int.f slices_Index_int_int.f
  refine Ev.bind hr (Ev.const ?_)
  congr 1
  rw [Bool.eq_iff_iff,decide_eq_true_iff,hp]
  simp
 ·refine EvX.succ ?_
  simp only [slices_Index_int_int.l0]
  exact EvX.neg (by omega) (EvX.const rfl (by simp))
 ·intro i hi ih
  refine EvX.succ ?_
  simp only [slices_Index_int_int.l0]
  rw [rd_nat hi,wrap_add (by omega) (by omega)]
  refine EvX.pos (by omega) (EvX.pos (by omega) (EvX.pos (by omega) ?_))
  have hd:x∈l.drop i↔x=l[i] ∨ x∈l.drop (i + 1):=by rw [List.drop_eq_getElem_cons hi,List.mem_cons]
  by_cases h:x=l[i]
  ·exact EvX.pos h (EvX.const rfl (by rw [hd];exact ⟨fun _=>.inl h,fun _=>by omega⟩))
  ·obtain ⟨r,hr,hp⟩:=ih
   refine EvX.neg h ⟨r,hr,?_⟩
   show r ≥ 0↔x∈l.drop i
   rw [hp,hd]
   exact ⟨.inr,fun h2=>h2.elim (fun e=>absurd e h) id⟩
theorem isHead_ev (h:List Int) (l:List S97) (hl:l.length≤1000) (hx:∀ a∈l,a.f1.length≤1000∧∀ v∈a.f1,0≤v∧v≤5):Ev (fun k=>impl_isHead.f k h l) (decide (h.length≤6) && h.all fun v=>(setL (varsFrom 0 l)).contains v):=by
 unfold impl_isHead.f
 refine Ev.bind (vars_ev l hl hx) ?_
 by_cases h1:(h.length:Int)≤6
 ·refine Ev.pos h1 (Ev.bind (a:=h.all fun v=>(setL (varsFrom 0 l)).contains v) ?_ (Ev.const (by rw [decide_eq_true (by omega:h.length≤6)];rfl)))
  obtain ⟨K,hK⟩:=ev_all (fun k d=>impl_isHead_1.f k d (setL (varsFrom 0 l))) (fun v=>(setL (varsFrom 0 l)).contains v) h (fun d _=>by
   unfold impl_isHead_1.f
   exact Ev.bind (contains_ev _ d (by have:=setL_len (varsFrom 0 l);omega)) (Ev.const rfl))
  refine ⟨K,fun k hk=>?_⟩
  show areAll_impl_isHead_1.f k h (setL (varsFrom 0 l))=_
  unfold areAll_impl_isHead_1.f
  exact all_some (hK k hk)
 ·exact Ev.neg h1 (Ev.const (by rw [decide_eq_false (by omega:¬ h.length≤6)];rfl))
open Classical in
theorem isQuery1_some (t:List Int) (ht:t.length≤1048576) (a:S97):impl_isQuery_1.f a.f0 a.f1 t=some (tell (atomOk t a)):=by
 unfold impl_isQuery_1.f
 rw [within_some,wrap_id (by omega) (by omega)]
 simp only [Option.bind_some]
 by_cases h1:0≤a.f0∧a.f0≤(t.length:Int) - 1
 case neg=>rw [if_neg (by simpa using h1),tell_no fun h=>h1 ⟨h.1,by have:=h.2.1;omega⟩]
 rw [if_pos (by simpa using h1),if_pos h1.1,if_pos (by omega)]
 by_cases h2:(a.f1.length:Int)=rd t a.f0
 case neg=>rw [if_neg h2,tell_no fun h=>h2 h.2.2.1]
 rw [if_pos h2]
 have e:areAll_impl_isVar.f a.f1=some (a.f1.all fun x=>decide (0≤x∧x≤5)):=by
  unfold areAll_impl_isVar.f
  exact all_some fun d _=>by unfold impl_isVar.f;rw [within_some];rfl
 rw [e]
 simp only [Option.bind_some]
 congr 1
 rw [Bool.eq_iff_iff,List.all_eq_true,tell_iff]
 exact ⟨fun h=>⟨h1.1,by omega,h2,fun v hv=>by simpa using h v hv⟩,fun h v hv=>by simpa using h.2.2.2 v hv⟩
theorem atom_len {t:List Int} (ht:tabOk t) {a:S97} (h:atomOk t a):a.f1.length≤3:=by
 have h1:=h.2.2.1
 have h2:=ht.1 (rd t a.f0) (by
  have:a.f0.toNat < t.length:=by have:=h.1;have:=h.2.1;omega
  have e:rd t a.f0=t[a.f0.toNat]:=by simp [rd,this]
  rw [e];exact List.getElem_mem this)
 omega
theorem implGoodQ_ev (h:List Int) (l:List S97) (t:List Int) (ht:t.length≤1048576) (hl:l.length≤1048576):Ev (fun k=>impl_GoodQuery.f k h l t) (tell (queryOk h l t)):=by
 unfold impl_GoodQuery.f
 rw [areTables_some]
 refine Ev.some_bind ?_
 by_cases g1:tabOk t
 case neg=>exact Ev.neg (by rw [tell_no g1];simp) (Ev.const (by rw [tell_no fun q=>g1 q.tab]))
 refine Ev.pos (tell_yes g1) (Ev.bind (a:=tell (queryOk h l t)) ?_ (Ev.const rfl))
 unfold impl_isQuery.f
 rw [within_some]
 refine Ev.some_bind ?_
 by_cases g2:(1:Int)≤l.length∧(l.length:Int)≤5
 case neg=>exact Ev.neg (by simpa using g2) (Ev.const (by rw [tell_no fun q=>g2 ⟨by have:=q.len1;omega,by have:=q.len5;omega⟩]))
 refine Ev.pos (by simpa using g2) ?_
 have e:areAll_impl_isQuery_1.f l t=some (l.all fun a=>tell (atomOk t a)):=by
  unfold areAll_impl_isQuery_1.f
  exact all_some fun d _=>isQuery1_some t ht d
 rw [e]
 refine Ev.some_bind ?_
 by_cases g3:∀ a∈l,atomOk t a
 case neg=>exact Ev.neg (by rw [List.all_eq_true];intro q;exact g3 fun a ha=>tell_iff.1 (q a ha)) (Ev.const (by rw [tell_no fun q=>g3 q.atoms]))
 refine Ev.pos (List.all_eq_true.2 fun a ha=>tell_yes (g3 a ha)) (Ev.bind (isHead_ev h l (by omega) fun a ha=>⟨by have:=atom_len g1 (g3 a ha);omega,(g3 a ha).2.2.2⟩) (Ev.const ?_))
 congr 1
 rw [Bool.eq_iff_iff,Bool.and_eq_true,decide_eq_true_iff,List.all_eq_true,tell_iff]
 exact ⟨fun q=>⟨g1,by omega,by omega,q.1,g3,fun v hv=>by simpa using q.2 v hv⟩,fun q=>⟨q.head6,fun v hv=>by simpa using q.heads v hv⟩⟩
theorem specGoodQ_ev (h:List Int) (l:List S97) (t:List Int) (hh:h.length≤1048576) (ht:t.length≤1048576) (hl:l.length≤1048576) (hx:∀ a∈l,a.f1.length≤1048576):Ev (fun k=>spec_GoodQuery.f k h l t) (tell (queryOk h l t)):=by
 have bad:∀ {p:List Int},¬ queryOk h l t→Ev (fun k=>spec_GoodQuery.j0 k t true h l) (tell (queryOk h l t)):=fun hq=>⟨1,fun k hk=>by
  obtain ⟨m,rfl⟩:∃ m,k=m + 1:=⟨k - 1,by omega⟩
  simp only [spec_GoodQuery.j0]
  rw [if_pos trivial,tell_no hq]⟩
 unfold spec_GoodQuery.f spec_l1In.f
 refine Ev.bind (l10Tables_ev t ht) ?_
 by_cases g1:tabOk t
 case neg=>exact Ev.neg (by rw [tell_no g1];simp) (bad (p:=[]) fun q=>g1 q.tab)
 refine Ev.pos (tell_yes g1) ?_
 by_cases g2:(l.length:Int) ≥ 1
 case neg=>exact Ev.bind (Ev.const (if_neg g2)) (Ev.neg (by simp) (bad (p:=[]) fun q=>g2 (by have:=q.len1;omega)))
 by_cases g3:(l.length:Int)≤5
 case neg=>exact Ev.bind (Ev.const (by rw [if_pos g2,decide_eq_false g3])) (Ev.neg (by simp) (bad (p:=[]) fun q=>g3 (by have:=q.len5;omega)))
 refine Ev.bind (Ev.const (by rw [if_pos g2,decide_eq_true g3])) (Ev.pos rfl ?_)
 by_cases g4:(h.length:Int) > 6
 ·rw [decide_eq_true g4]
  exact bad (p:=[]) fun q=>by have:=q.head6;omega
 rw [decide_eq_false g4]
 refine Ev.succ ?_
 simp only [spec_GoodQuery.j0]
 refine Ev.neg (by simp) ?_
 have loop:=loop_up (n:=l.length) (P:=fun i=>(∀ j,(hj:j < l.length)→j < i→atomOk t l[j])→Ev (fun k=>spec_GoodQuery.l0 k t l (l.length:Int) (i:Int) h l) (tell (queryOk h l t))) ?_ ?_
 ·exact loop 0 (Nat.zero_le _) (fun j _ h=>absurd h (Nat.not_lt_zero _))
 ·intro g
  have all:∀ a∈l,atomOk t a:=fun a ha=>by obtain ⟨i,hi,rfl⟩:=List.getElem_of_mem ha;exact g i hi hi
  refine Ev.succ ?_
  simp only [spec_GoodQuery.l0]
  refine Ev.neg (by omega) (Ev.bind (l10Vars_ev h l (by omega) fun a ha=>⟨by have:=atom_len g1 (all a ha);omega,(all a ha).2.2.2⟩) (Ev.bind (l7All_ev _ h (by have:=setL_len (varsFrom 0 l);omega) (by omega)) (Ev.const ?_)))
  congr 1
  rw [Bool.eq_iff_iff,List.all_eq_true,tell_iff]
  exact ⟨fun q=>⟨g1,by omega,by omega,by omega,all,fun v hv=>by simpa using q v hv⟩,fun q v hv=>by simpa using q.heads v hv⟩
 ·intro i hi ih g
  have hxi:=hx _ (List.getElem_mem hi)
  refine Ev.succ ?_
  simp only [spec_GoodQuery.l0]
  rw [rdA hi]
  refine Ev.pos (by omega) (Ev.pos (by omega) (Ev.pos (by omega) ?_))
  have no:∀ {a b:Int} {c:List Int},¬ atomOk t l[i]→Ev (fun k=>spec_GoodQuery.j2 k t l (l.length:Int) (i:Int) true h l a c) (tell (queryOk h l t)):=fun hq=>⟨1,fun k hk=>by
   obtain ⟨m,rfl⟩:∃ m,k=m + 1:=⟨k - 1,by omega⟩
   simp only [spec_GoodQuery.j2]
   rw [if_pos trivial,tell_no fun q=>hq (q.atoms _ (List.getElem_mem hi))]⟩
  by_cases h1:l[i].f0 < 0
  ·exact Ev.pos h1 (no (b:=0) fun q=>by have:=q.1;omega)
  refine Ev.neg h1 ?_
  by_cases h2:l[i].f0 ≥ (t.length:Int)
  ·exact Ev.pos h2 (no (b:=0) fun q=>by have:=q.2.1;omega)
  refine Ev.neg h2 (Ev.pos (by omega) (Ev.pos (by omega) ?_))
  by_cases h3:(l[i].f1.length:Int)=rd t l[i].f0
  case neg =>
   rw [show ((l[i].f1.length:Int) != rd t l[i].f0)=true from by simpa using h3]
   exact no (b:=0) fun q=>h3 q.2.2.1
  rw [show ((l[i].f1.length:Int) != rd t l[i].f0)=false from by simpa using h3]
  refine Ev.succ ?_
  simp only [spec_GoodQuery.j2]
  refine Ev.neg (by simp) ?_
  have inner:=loop_up (n:=l[i].f1.length) (P:=fun j=>(∀ q,(hq:q < l[i].f1.length)→q < j→0≤l[i].f1[q]∧l[i].f1[q]≤5)→Ev (fun k=>spec_GoodQuery.l1 k t l (l.length:Int) (i:Int) l[i].f1 (l[i].f1.length:Int) (j:Int) h l) (tell (queryOk h l t))) ?_ ?_
  ·exact inner 0 (Nat.zero_le _) (fun j _ h=>absurd h (Nat.not_lt_zero _))
  ·intro gv
   refine Ev.succ ?_
   simp only [spec_GoodQuery.l1]
   rw [wrap_add (a:=(i:Int)) (by omega) (by omega)]
   refine Ev.neg (by omega) (ih fun j hj hji=>?_)
   by_cases e:j=i
   ·subst e
    exact ⟨by omega,by omega,h3,fun v hv=>by obtain ⟨q,hq,rfl⟩:=List.getElem_of_mem hv;exact gv q hq hq⟩
   ·exact g j hj (by omega)
  ·intro j hj ihj gv
   refine Ev.succ ?_
   simp only [spec_GoodQuery.l1,spec_l10Var.f]
   rw [rd_nat hj,wrap_add (a:=(j:Int)) (by omega) (by omega)]
   refine Ev.pos (by omega) (Ev.pos (by omega) (Ev.pos (by omega) ?_))
   have nov:¬ (0≤l[i].f1[j]∧l[i].f1[j]≤5)→tell (queryOk h l t)=false:=fun hq=>tell_no fun q=>hq ((q.atoms _ (List.getElem_mem hi)).2.2.2 _ (List.getElem_mem hj))
   by_cases v1:l[i].f1[j] ≥ 0
   case neg=>exact Ev.bind (Ev.const (if_neg v1)) (Ev.neg (by simp) (Ev.const (by rw [nov (by omega)])))
   by_cases v2:l[i].f1[j] < 6
   case neg=>exact Ev.bind (Ev.const (by rw [if_pos v1,decide_eq_false v2])) (Ev.neg (by simp) (Ev.const (by rw [nov (by omega)])))
   refine Ev.bind (Ev.const (by rw [if_pos v1,decide_eq_true v2])) (Ev.pos rfl (ihj fun q hq hqj=>?_))
   by_cases e:q=j
   ·subst e;exact ⟨v1,by omega⟩
   ·exact gv q hq (by omega)
/-! ### chapter 11: edges -/
theorem edge_ev (a:Int) (l:List Int) (hl:l.length≤1000) (h:∀ v∈l,0≤v∧v≤5):Ev (fun k=>spec_l11Edge.f k a l) (setL (setI l)):=by
 have loop:=loop_up (n:=l.length) (P:=fun i=>∀ s,isSet s→(l.drop i).foldl orB s=setI l→Ev (fun k=>spec_l11Edge.l0 k (setL s) l (l.length:Int) (i:Int)) (setL (setI l))) ?_ ?_
 ·have:=loop 0 (Nat.zero_le _) 0 ⟨by omega,by omega⟩ rfl
  rw [show setL 0=[] from by decide +kernel] at this
  exact this
 ·intro s hs e
  refine Ev.succ ?_
  simp only [spec_l11Edge.l0]
  exact Ev.neg (by omega) (Ev.const (by rw [← e];simp))
 ·intro i hi ih s hs e
  have hm:=h _ (List.getElem_mem hi)
  refine Ev.succ ?_
  simp only [spec_l11Edge.l0]
  rw [rd_nat hi,wrap_add (by omega) (by omega)]
  refine Ev.pos (by omega) (Ev.pos (by omega) (Ev.pos (by omega) (Ev.bind (l7Put_set s _ hs hm.1 hm.2) (ih _ (orB_ok hs hm.1 hm.2).1 ?_))))
  rw [← e,List.drop_eq_getElem_cons hi];rfl
def edgesI (l:List S97):List Int:=l.map fun a=>setI a.f1
theorem edgesI_ev (h:List Int) (l:List S97) (hl:l.length≤1000) (hx:∀ a∈l,a.f1.length≤1000∧∀ v∈a.f1,0≤v∧v≤5):Ev (fun k=>impl_edges.f k h l) (edgesI l):=by
 have loop:=loop_up (n:=l.length) (P:=fun i=>Ev (fun k=>impl_edges.l0 k (edgesI (l.take i)) l (l.length:Int) (i:Int)) (edgesI l)) ?_ ?_
 ·exact loop 0 (Nat.zero_le _)
 ·refine Ev.succ ?_
  simp only [impl_edges.l0]
  exact Ev.neg (by omega) (Ev.const (by simp))
 ·intro i hi ih
  have hv:=hx _ (List.getElem_mem hi)
  refine Ev.succ ?_
  simp only [impl_edges.l0]
  rw [rdA hi,wrap_add (by omega) (by omega)]
  refine Ev.pos (by omega) (Ev.pos (by omega) (Ev.pos (by omega) (Ev.bind (setOf_ev l[i].f1 (by have:=hv.1;omega) (fun x hx=>(hv.2 x hx).1)) (Ev.pos (by simp [edgesI];omega) ?_))))
  rw [show edgesI (l.take i)++[setI l[i].f1]=edgesI (l.take (i + 1)) by unfold edgesI;rw [List.take_succ_eq_append_getElem hi,List.map_append];rfl]
  exact ih
/-! ### chapter 11: what atoms share -/
def inR (l:List S97) (x:Int):Prop:=0≤x∧x < (l.length:Int)
theorem rdR {l:List S97} {x:Int} (h:inR l x):rd_T97 l x∈l:=by
 obtain ⟨n,rfl⟩:=Int.eq_ofNat_of_zero_le h.1
 have hn:n < l.length:=by have:=h.2;omega
 rw [rdA hn]
 exact List.getElem_mem _
def eD (l:List S97) (x:Int):Int:=setI (rd_T97 l x).f1
theorem rdI {l:List S97} {x:Int} (h:inR l x):rd (edgesI l) x=eD l x:=by
 obtain ⟨n,rfl⟩:=Int.eq_ofNat_of_zero_le h.1
 have hn:n < l.length:=by have:=h.2;omega
 unfold eD
 rw [rdA hn,rd_nat (by simpa [edgesI] using hn)]
 simp [edgesI]
def at5 (l:List S97):Prop:=∀ a∈l,a.f1.length≤3∧∀ v∈a.f1,0≤v∧v≤5
theorem eD_set {l:List S97} (hv:at5 l) {x:Int} (h:inR l x):isSet (eD l x):=(setI_set (hv _ (rdR h)).2).1
theorem eD_mem {l:List S97} (hv:at5 l) {x:Int} (h:inR l x) (y:Int):y∈setL (eD l x)↔y∈(rd_T97 l x).f1:=by
 unfold eD
 rw [(setI_set (hv _ (rdR h)).2).2,mem_foldl_putL]
 simp
theorem set0 : setL 0=[]:=by decide +kernel
def shI (l:List S97) (v:Int) (seen:List Int) (s:Int):Int:=seen.foldl (fun s o=>if (rd_T97 l o).f1.contains v then orB s v else s) s
def shO (l:List S97) (seen edge:List Int) (s:Int):Int:=edge.foldl (fun s v=>shI l v seen s) s
theorem shI_mem (l:List S97) (v:Int) (h0:0≤v) (h5:v≤5):∀ (seen:List Int) (s:Int),isSet s→isSet (shI l v seen s)∧∀ y,y∈setL (shI l v seen s)↔y∈setL s ∨ (y=v∧∃ o∈seen,v∈(rd_T97 l o).f1)
 | [],s,hs=>⟨hs,fun y=>by simp [shI]⟩
 | o :: r,s,hs=>by
  by_cases c:v∈(rd_T97 l o).f1
  ·have hb:=orB_ok hs h0 h5
   obtain ⟨a,b⟩:=shI_mem l v h0 h5 r (orB s v) hb.1
   have e:shI l v (o :: r) s=shI l v r (orB s v):=by simp [shI,c]
   have hex:∃ o'∈o :: r,v∈(rd_T97 l o').f1:=⟨o,List.mem_cons_self,c⟩
   rw [e]
   refine ⟨a,fun y=>?_⟩
   rw [b y,hb.2,mem_putL]
   constructor
   ·rintro ((h | h) | ⟨h,_⟩)
    ·exact .inr ⟨h,hex⟩
    ·exact .inl h
    ·exact .inr ⟨h,hex⟩
   ·rintro (h | ⟨h,_⟩)
    ·exact .inl (.inr h)
    ·exact .inl (.inl h)
  ·have e:shI l v (o :: r) s=shI l v r s:=by simp [shI,c]
   obtain ⟨a,b⟩:=shI_mem l v h0 h5 r s hs
   rw [e]
   refine ⟨a,fun y=>?_⟩
   rw [b y]
   constructor
   ·rintro (h | ⟨h,o',ho,hv⟩)
    ·exact .inl h
    ·exact .inr ⟨h,o',List.mem_cons_of_mem _ ho,hv⟩
   ·rintro (h | ⟨h,o',ho,hv⟩)
    ·exact .inl h
    ·rcases List.mem_cons.1 ho with rfl | ho
     ·exact absurd hv c
     ·exact .inr ⟨h,o',ho,hv⟩
theorem shO_mem (l:List S97) (seen:List Int):∀ (edge:List Int) (s:Int),isSet s→(∀ v∈edge,0≤v∧v≤5)→isSet (shO l seen edge s)∧∀ y,y∈setL (shO l seen edge s)↔y∈setL s ∨ (y∈edge∧∃ o∈seen,y∈(rd_T97 l o).f1)
 | [],s,hs,_=>⟨hs,fun y=>by simp [shO]⟩
 | v :: r,s,hs,h=>by
  have hv:=h v List.mem_cons_self
  obtain ⟨a1,b1⟩:=shI_mem l v hv.1 hv.2 seen s hs
  obtain ⟨a,b⟩:=shO_mem l seen r (shI l v seen s) a1 (fun x hx=>h x (List.mem_cons_of_mem _ hx))
  refine ⟨a,fun y=>?_⟩
  rw [show shO l seen (v :: r) s=shO l seen r (shI l v seen s) from rfl,b y,b1 y]
  constructor
  ·rintro ((h | ⟨rfl,h⟩) | ⟨h1,h2⟩)
   ·exact .inl h
   ·exact .inr ⟨List.mem_cons_self,h⟩
   ·exact .inr ⟨List.mem_cons_of_mem _ h1,h2⟩
  ·rintro (h | ⟨h1,h2⟩)
   ·exact .inl (.inl h)
   ·rcases List.mem_cons.1 h1 with rfl | h1
    ·exact .inl (.inr ⟨rfl,h2⟩)
    ·exact .inr ⟨h1,h2⟩
theorem shared_ev (h:List Int) (l:List S97) (a:Int) (seen:List Int) (ha:inR l a) (hv:at5 l) (hs:∀ o∈seen,inR l o) (hn:seen.length≤1048576):Ev (fun k=>spec_l11Shared.f k h l a seen) (setL (shO l seen (setL (eD l a)) 0)):=by
 have hva:=hv _ (rdR ha)
 unfold spec_l11Shared.f
 refine Ev.pos ha.1 (Ev.pos ha.2 (Ev.bind (edge_ev _ _ (by have:=hva.1;omega) hva.2) ?_))
 have hE5:∀ x∈setL (eD l a),0≤x∧x≤5:=fun x hx=>setL_mem hx
 have hEl:=setL_len (eD l a)
 show Ev (fun k=>spec_l11Shared.l0 k seen [] (setL (eD l a)) ((setL (eD l a)).length:Int) 0 h l) _
 generalize setL (eD l a)=E at hE5 hEl
 have outer:=loop_up (n:=E.length) (P:=fun i=>∀ s,isSet s→shO l seen (E.drop i) s=shO l seen E 0→Ev (fun k=>spec_l11Shared.l0 k seen (setL s) E (E.length:Int) (i:Int) h l) (setL (shO l seen E 0))) ?_ ?_
 ·have:=outer 0 (Nat.zero_le _) 0 ⟨by omega,by omega⟩ rfl
  rwa [set0] at this
 ·intro s hs e
  refine Ev.succ ?_
  simp only [spec_l11Shared.l0]
  exact Ev.neg (by omega) (Ev.const (by rw [← e];simp [shO]))
 ·intro i hi ih s0 hs0 e
  have hm:=hE5 _ (List.getElem_mem hi)
  refine Ev.succ ?_
  simp only [spec_l11Shared.l0]
  rw [rd_nat hi]
  refine Ev.pos (by omega) (Ev.pos (by omega) (Ev.pos (by omega) ?_))
  have inner:=loop_up (n:=seen.length) (P:=fun j=>∀ s,isSet s→shI l E[i] (seen.drop j) s=shI l E[i] seen s0→Ev (fun k=>spec_l11Shared.l1 k seen (setL s) E[i] E (E.length:Int) (i:Int) seen (seen.length:Int) (j:Int) h l) (setL (shO l seen E 0))) ?_ ?_
  ·exact inner 0 (Nat.zero_le _) s0 hs0 rfl
  ·intro s hs1 e1
   refine Ev.succ ?_
   simp only [spec_l11Shared.l1]
   rw [wrap_add (a:=(i:Int)) (b:=1) (by omega) (by omega)]
   refine Ev.neg (by omega) (ih s hs1 ?_)
   rw [← e,List.drop_eq_getElem_cons hi]
   rw [List.drop_length] at e1
   show _=shO l seen (E.drop (i + 1)) (shI l E[i] seen s0)
   rw [← e1]
   rfl
  ·intro j hj ihj s hs1 e1
   have hr:=hs _ (List.getElem_mem hj)
   have hc:=hv _ (rdR hr)
   refine Ev.succ ?_
   simp only [spec_l11Shared.l1]
   rw [rd_nat hj,wrap_add (by omega) (by omega)]
   rw [List.drop_eq_getElem_cons hj] at e1
   refine Ev.pos (by omega) (Ev.pos (by omega) (Ev.pos (by omega) (Ev.pos hr.1 (Ev.pos hr.2 (Ev.bind (l1Has_ev _ _ (by have:=hc.1;omega)) ?_)))))
   by_cases c:(rd_T97 l seen[j]).f1.contains E[i]=true
   ·refine Ev.pos c (Ev.bind (l7Put_set s _ hs1 hm.1 hm.2) (ihj _ (orB_ok hs1 hm.1 hm.2).1 ?_))
    rw [← e1]
    show _=shI l E[i] (seen.drop (j + 1)) (if (rd_T97 l seen[j]).f1.contains E[i]=true then orB s E[i] else s)
    rw [if_pos c]
   ·refine Ev.neg c (ihj _ hs1 ?_)
    rw [← e1]
    show _=shI l E[i] (seen.drop (j + 1)) (if (rd_T97 l seen[j]).f1.contains E[i]=true then orB s E[i] else s)
    rw [if_neg c]
/-! ### chapter 11: ears -/
def toldI (l:List S97) (a u:Int) (r:List Int):Prop:=∀ y∈(rd_T97 l a).f1,(∃ o∈r,y∈(rd_T97 l o).f1)→y∈(rd_T97 l u).f1
theorem all_toldI {l:List S97} (hv:at5 l) {a u:Int} {r:List Int} (ha:inR l a):((setL (shO l r (setL (eD l a)) 0)).all fun x=>(rd_T97 l u).f1.contains x)=tell (toldI l a u r):=by
 obtain ⟨_,b⟩:=shO_mem l r (setL (eD l a)) 0 ⟨by omega,by omega⟩ (fun x hx=>setL_mem hx)
 rw [Bool.eq_iff_iff,tell_iff,List.all_eq_true]
 constructor
 ·intro H y hy hoy
  simpa using H y ((b y).2 (.inr ⟨(eD_mem hv ha y).2 hy,hoy⟩))
 ·intro H y hy
  rcases (b y).1 hy with h | ⟨h1,h2⟩
  ·rw [set0] at h;cases h
  ·simpa using H y ((eD_mem hv ha y).1 h1) h2
def behI (l:List S97) (r:List Int) (s:Int):Int:=r.foldl (fun s o=>orS s (eD l o)) s
theorem behI_mem {l:List S97} (hv:at5 l):∀ (r:List Int) (s:Int),isSet s→(∀ o∈r,inR l o)→isSet (behI l r s)∧∀ y,y∈setL (behI l r s)↔y∈setL s ∨ ∃ o∈r,y∈(rd_T97 l o).f1
 | [],s,hs,_=>⟨hs,fun y=>by simp [behI]⟩
 | o :: r,s,hs,h=>by
  have ho:=h o List.mem_cons_self
  have h1:=orS_set hs (eD_set hv ho)
  obtain ⟨a,b⟩:=behI_mem hv r (orS s (eD l o)) h1 (fun x hx=>h x (List.mem_cons_of_mem _ hx))
  refine ⟨a,fun y=>?_⟩
  rw [show behI l (o :: r) s=behI l r (orS s (eD l o)) from rfl,b y,mem_or hs (eD_set hv ho),eD_mem hv ho]
  simp [or_assoc]
theorem has_toldI {l:List S97} (hv:at5 l) {a u:Int} {r:List Int} (ha:inR l a) (hu:inR l u) (hr:∀ o∈r,inR l o):hasB (eD l u) (andS (eD l a) (behI l r 0))=tell (toldI l a u r):=by
 obtain ⟨b1,b2⟩:=behI_mem hv r 0 ⟨by omega,by omega⟩ hr
 have h2:=andS_eq (eD_set hv ha) b1
 rw [Bool.eq_iff_iff,tell_iff,mem_has (eD_set hv hu) h2.1]
 constructor
 ·intro H y hy ho
  exact (eD_mem hv hu y).1 (H y ((mem_and (eD_set hv ha) b1 y).2 ⟨(eD_mem hv ha y).2 hy,(b2 y).2 (.inr ho)⟩))
 ·intro H y hy
  obtain ⟨y1,y2⟩:=(mem_and (eD_set hv ha) b1 y).1 hy
  refine (eD_mem hv hu y).2 (H y ((eD_mem hv ha y).1 y1) ?_)
  rcases (b2 y).1 y2 with h | h
  ·rw [set0] at h;cases h
  ·exact h
def oth (l:List Int) (a:Int):List Int:=l.filter fun x=>!(x == a)
theorem oth_mem {l:List Int} {a x:Int} (h:x∈oth l a):x∈l:=(List.mem_filter.1 h).1
theorem oth_len (l:List Int) (a:Int):(oth l a).length≤l.length:=List.length_filter_le _ _
theorem without_ev (l:List Int) (a:Int) (hl:l.length≤1048576):Ev (fun k=>spec_l11Without.f k l a) (oth l a):=by
 have loop:=loop_up (n:=l.length) (P:=fun i=>Ev (fun k=>spec_l11Without.l0 k a (oth (l.take i) a) l (l.length:Int) (i:Int)) (oth l a)) ?_ ?_
 ·exact loop 0 (Nat.zero_le _)
 ·refine Ev.succ ?_
  simp only [spec_l11Without.l0]
  exact Ev.neg (by omega) (Ev.const (by rw [List.take_length]))
 ·intro i hi ih
  refine Ev.succ ?_
  simp only [spec_l11Without.l0]
  rw [rd_nat hi,wrap_add (by omega) (by omega)]
  refine Ev.pos (by omega) (Ev.pos (by omega) (Ev.pos (by omega) ?_))
  have htk:oth (l.take (i + 1)) a=oth (l.take i) a++(if l[i]=a then [] else [l[i]]):=by
   unfold oth
   rw [List.take_succ_eq_append_getElem hi,List.filter_append]
   congr 1
   by_cases c:l[i]=a
   ·simp [c]
   ·simp [c]
  rw [htk] at ih
  by_cases c:l[i]=a
  ·refine Ev.pos c ?_
   rw [if_pos c,List.append_nil] at ih
   exact ih
  ·refine Ev.neg c (Ev.pos ?_ ?_)
   ·have h1:=oth_len (l.take i) a
    have h2:(l.take i).length≤l.length:=by simp;omega
    omega
   ·rw [if_neg c] at ih
    exact ih
noncomputable def upF (l : List S97) (left : List Int) (k : Int) : Option Int := (oth left k).find? fun o => tell (toldI l k o (oth left k))
noncomputable def earF (l : List S97) (left : List Int) (k : Int) : Option (Int × Int) := (upF l left k).map fun u => (k, u)
def encE : Option (Int × Int)→Int × Int × Bool
 | some (a,u)=>(a,u,true)
 | none=>(0,0,false)
def orE (a b:Option (Int × Int)):Option (Int × Int):=match a with
 | some x=>some x
 | none=>b
theorem find_orE (f:Int→Option (Int × Int)) (a:Int) (l:List Int):(a :: l).findSome? f=orE (f a) (l.findSome? f):=by
 rw [List.findSome?_cons]
 unfold orE
 cases f a <;> rfl
theorem specEar_ev (h:List Int) (l:List S97) (left:List Int) (hlen:l.length≤5) (hv:at5 l) (hL:∀ o∈left,inR l o) (hn:left.length≤1000):Ev (fun k=>spec_l11Ear.f k h l left) (encE (left.findSome? (earF l left))):=by
 have loop:=loop_up (n:=left.length) (P:=fun i=>Ev (fun k=>spec_l11Ear.l0 k left left (left.length:Int) (i:Int) h l) (encE ((left.drop i).findSome? (earF l left)))) ?_ ?_
 ·exact loop 0 (Nat.zero_le _)
 ·refine Ev.succ ?_
  simp only [spec_l11Ear.l0]
  exact Ev.neg (by omega) (Ev.const (by simp [encE]))
 ·intro i hi ih
  have hin:=hL _ (List.getElem_mem hi)
  refine Ev.succ ?_
  simp only [spec_l11Ear.l0]
  rw [rd_nat hi]
  have ho:∀ o∈oth left left[i],inR l o:=fun o h=>hL o (oth_mem h)
  have hol:=oth_len left left[i]
  refine Ev.pos (by omega) (Ev.pos (by omega) (Ev.pos (by omega) (Ev.bind (without_ev left left[i] (by omega)) (Ev.bind (shared_ev h l left[i] _ hin hv ho (by omega)) ?_))))
  rw [List.drop_eq_getElem_cons hi,find_orE]
  generalize hO:oth left left[i]=O at *
  have inner:=loop_up (n:=O.length) (P:=fun j=>Ev (fun k=>spec_l11Ear.l1 k left left[i] (setL (shO l O (setL (eD l left[i])) 0)) left (left.length:Int) (i:Int) O (O.length:Int) (j:Int) h l)
    (encE (orE (((O.drop j).find? fun o=>tell (toldI l left[i] o O)).map fun u=>(left[i],u)) ((left.drop (i + 1)).findSome? (earF l left))))) ?_ ?_
  ·have:=inner 0 (Nat.zero_le _)
   have he:earF l left left[i]=((O.drop 0).find? fun o=>tell (toldI l left[i] o O)).map fun u=>(left[i],u):=by unfold earF upF;rw [hO];rfl
   rw [he]
   exact this
  ·refine Ev.succ ?_
   simp only [spec_l11Ear.l1]
   rw [wrap_add (a:=(i:Int)) (b:=1) (by omega) (by omega)]
   refine Ev.neg (by omega) ?_
   rw [List.drop_length]
   exact ih
  ·intro j hj ihj
   have hu:=ho _ (List.getElem_mem hj)
   refine Ev.succ ?_
   simp only [spec_l11Ear.l1]
   rw [rd_nat hj,wrap_add (a:=(j:Int)) (b:=1) (by omega) (by omega)]
   refine Ev.pos (by omega) (Ev.pos (by omega) (Ev.pos (by omega) (Ev.pos hu.1 (Ev.pos hu.2 (Ev.bind (l7All_ev _ _ (by have:=(hv _ (rdR hu)).1;omega) (by have:=setL_len (shO l O (setL (eD l left[i])) 0);omega)) ?_)))))
   rw [all_toldI hv hin,List.drop_eq_getElem_cons hj,List.find?_cons]
   cases hc:tell (toldI l left[i] O[j] O) with
   | true=>exact Ev.pos rfl (Ev.const rfl)
   | false=>exact Ev.neg (by simp) ihj
theorem implEar_ev (l:List S97) (left:List Int) (hlen:l.length≤5) (hv:at5 l) (hL:∀ o∈left,inR l o) (hn:left.length≤1000):Ev (fun k=>impl_takeEar.f k (edgesI l) left) (encE (left.findSome? (earF l left))):=by
 have hel:(edgesI l).length=l.length:=by simp [edgesI]
 have up:∀ a,inR l a→Ev (fun k=>impl_upOf.f k (edgesI l) a left) (match upF l left a with | some u=>(u,true) | none=>(0,false)):=by
  intro a ha
  unfold impl_upOf.f
  have ho:∀ o∈oth left a,inR l o:=fun o h=>hL o (oth_mem h)
  have second:=loop_up (n:=left.length) (P:=fun i=>Ev (fun k=>impl_upOf.l1 k (edgesI l) a (behI l (oth left a) 0) left (left.length:Int) (i:Int)) (match ((oth (left.drop i) a).find? fun o=>tell (toldI l a o (oth left a))) with | some u=>(u,true) | none=>(0,false))) ?_ ?_
  ·have first:=loop_up (n:=left.length) (P:=fun i=>Ev (fun k=>impl_upOf.l0 k (edgesI l) a left (behI l (oth (left.take i) a) 0) left (left.length:Int) (i:Int)) (match upF l left a with | some u=>(u,true) | none=>(0,false))) ?_ ?_
   ·exact first 0 (Nat.zero_le _)
   ·refine Ev.succ ?_
    simp only [impl_upOf.l0]
    refine Ev.neg (by omega) ?_
    rw [List.take_length]
    exact second 0 (Nat.zero_le _)
   ·intro i hi ih
    have hin:=hL _ (List.getElem_mem hi)
    refine Ev.succ ?_
    simp only [impl_upOf.l0]
    rw [rd_nat hi,wrap_add (by omega) (by omega)]
    refine Ev.pos (by omega) (Ev.pos (by omega) (Ev.pos (by omega) ?_))
    by_cases c:left[i]=a
    ·refine Ev.pos c ?_
     have:oth (left.take (i + 1)) a=oth (left.take i) a:=by unfold oth;rw [List.take_succ_eq_append_getElem hi,List.filter_append];simp [c]
     rw [this] at ih
     exact ih
    ·refine Ev.neg c (Ev.pos hin.1 (Ev.pos (by rw [hel];exact hin.2) ?_))
     have:behI l (oth (left.take (i + 1)) a) 0=orS (behI l (oth (left.take i) a) 0) (eD l left[i]):=by
      have h1:oth (left.take (i + 1)) a=oth (left.take i) a++[left[i]]:=by unfold oth;rw [List.take_succ_eq_append_getElem hi,List.filter_append];simp [c]
      rw [h1];unfold behI;rw [List.foldl_append];rfl
     rw [this] at ih
     rw [rdI hin]
     exact ih
  ·refine Ev.succ ?_
   simp only [impl_upOf.l1]
   exact Ev.neg (by omega) (Ev.const (by simp [oth]))
  ·intro i hi ih
   have hin:=hL _ (List.getElem_mem hi)
   refine Ev.succ ?_
   simp only [impl_upOf.l1]
   rw [rd_nat hi,wrap_add (by omega) (by omega)]
   refine Ev.pos (by omega) (Ev.pos (by omega) (Ev.pos (by omega) ?_))
   by_cases c:left[i]=a
   ·refine Ev.pos c ?_
    have:oth (left.drop i) a=oth (left.drop (i + 1)) a:=by unfold oth;rw [List.drop_eq_getElem_cons hi,List.filter_cons];simp [c]
    rw [this]
    exact ih
   ·refine Ev.neg c (Ev.pos hin.1 (Ev.pos (by rw [hel];exact hin.2) (Ev.pos ha.1 (Ev.pos (by rw [hel];exact ha.2) ?_))))
    have:oth (left.drop i) a=left[i] :: oth (left.drop (i + 1)) a:=by unfold oth;rw [List.drop_eq_getElem_cons hi,List.filter_cons];simp [c]
    rw [this,List.find?_cons,rdI hin,rdI ha]
    show Ev (fun k=>(some (hasB (eD l left[i]) (andS (eD l a) (behI l (oth left a) 0)))).bind _) _
    rw [has_toldI hv ha hin ho]
    refine Ev.some_bind ?_
    cases hc:tell (toldI l a left[i] (oth left a)) with
    | true=>exact Ev.pos rfl (Ev.const rfl)
    | false=>exact Ev.neg (by simp) ih
 have loop:=loop_up (n:=left.length) (P:=fun i=>Ev (fun k=>impl_takeEar.l0 k (edgesI l) left left (left.length:Int) (i:Int)) (encE ((left.drop i).findSome? (earF l left)))) ?_ ?_
 ·exact loop 0 (Nat.zero_le _)
 ·refine Ev.succ ?_
  simp only [impl_takeEar.l0]
  exact Ev.neg (by omega) (Ev.const (by simp [encE]))
 ·intro i hi ih
  have hin:=hL _ (List.getElem_mem hi)
  refine Ev.succ ?_
  simp only [impl_takeEar.l0]
  rw [rd_nat hi,wrap_add (by omega) (by omega)]
  refine Ev.pos (by omega) (Ev.pos (by omega) (Ev.pos (by omega) (Ev.bind (up _ hin) ?_)))
  rw [List.drop_eq_getElem_cons hi,find_orE]
  have he:earF l left left[i]=(upF l left left[i]).map fun u=>(left[i],u):=rfl
  rw [he]
  cases upF l left left[i] with
  | some u=>exact Ev.pos rfl (Ev.const rfl)
  | none=>exact Ev.neg (by simp) ih
noncomputable def earsP (l : List S97) : Nat → List Int → List S106 → List S106 × Bool
 | 0,_,out=>(out,false)
 | n + 1,left,out=>if left.length > 1 then (match left.findSome? (earF l left) with | some (a,u)=>earsP l n (oth left a) (out++[⟨a,u⟩]) | none=>(out,false)) else (out++[⟨rd left 0,-1⟩],true)
theorem ears_ev (h:List Int) (l:List S97) (hlen:l.length≤5) (hv:at5 l):∀ (n:Nat) (left:List Int) (out:List S106),left.length≤n→1≤left.length→(∀ o∈left,inR l o)→out.length + left.length≤1000 →
  Ev (fun k=>spec_l11Ears.l1 k out left h l) (earsP l n left out)∧Ev (fun k=>impl_ears.l1 k (edgesI l) left out) (earsP l n left out)∧(earsP l n left out).1.length≤1000:=by
 intro n
 induction n with
 | zero=>intro left out h1 h2;omega
 | succ n ih =>
  intro left out h1 h2 hL hb
  by_cases c:left.length > 1
  ·have hs:=specEar_ev h l left hlen hv hL (by omega)
   have hi:=implEar_ev l left hlen hv hL (by omega)
   cases hE:left.findSome? (earF l left) with
   | none =>
    rw [hE] at hs hi
    have hp:earsP l (n + 1) left out=(out,false):=by simp only [earsP];rw [if_pos c,hE]
    rw [hp]
    refine ⟨Ev.succ ?_,Ev.succ ?_,by show out.length≤1000;omega⟩
    ·simp only [spec_l11Ears.l1]
     exact Ev.pos (by omega) (Ev.bind hs (Ev.neg (by simp [encE]) (Ev.const rfl)))
    ·simp only [impl_ears.l1]
     exact Ev.pos (by omega) (Ev.bind hi (Ev.neg (by simp [encE]) (Ev.const rfl)))
   | some z =>
    obtain ⟨a,u⟩:=z
    rw [hE] at hs hi
    have hp:earsP l (n + 1) left out=earsP l n (oth left a) (out++[⟨a,u⟩]):=by simp only [earsP];rw [if_pos c,hE]
    obtain ⟨k,hk,he⟩:=List.exists_of_findSome?_eq_some hE
    obtain ⟨u',hu',he'⟩:∃ u',upF l left k=some u'∧(k,u')=(a,u):=by
     unfold earF at he
     cases hq:upF l left k with
     | none=>rw [hq] at he;cases he
     | some u'=>rw [hq] at he;exact ⟨u',rfl,by simpa using he⟩
    cases he'
    have hmem:u∈oth left a:=List.mem_of_find?_eq_some hu'
    have hlt:(oth left a).length < left.length:=by
     unfold oth
     exact List.length_filter_lt_length_iff_exists.2 ⟨a,hk,by simp⟩
    have h3:1≤(oth left a).length:=List.length_pos_of_mem hmem
    obtain ⟨i1,i2,i3⟩:=ih (oth left a) (out++[⟨a,u⟩]) (by omega) h3 (fun o ho=>hL o (oth_mem ho)) (by simp;omega)
    rw [hp]
    refine ⟨Ev.succ ?_,Ev.succ ?_,i3⟩
    ·simp only [spec_l11Ears.l1]
     exact Ev.pos (by omega) (Ev.bind hs (Ev.pos rfl (Ev.pos (by omega) (Ev.bind (without_ev left a (by omega)) i1))))
    ·simp only [impl_ears.l1]
     exact Ev.pos (by omega) (Ev.bind hi (Ev.pos rfl (Ev.pos (by omega) (Ev.bind (Ev.const (if_pos (by omega))) i2))))
  ·have hp:earsP l (n + 1) left out=(out++[⟨rd left 0,-1⟩],true):=by simp only [earsP];rw [if_neg c]
   rw [hp]
   refine ⟨Ev.succ ?_,Ev.succ ?_,by simp;omega⟩
   ·simp only [spec_l11Ears.l1]
    exact Ev.neg (by omega) (Ev.pos (by omega) (Ev.pos (by omega) (Ev.const rfl)))
   ·simp only [impl_ears.l1]
    exact Ev.neg (by omega) (Ev.pos (by omega) (Ev.pos (by omega) (Ev.const rfl)))
theorem both (h:List Int) (l:List S97) (t:List Int) (hh:h.length≤1048576) (ht:t.length≤1048576) (hl:l.length≤1048576) (hx:∀ a∈l,a.f1.length≤1048576):∃ r:List S106 × Bool × Bool,okEarS r.1∧Ev (fun k=>spec_EarsOf.f k h l t) r∧Ev (fun k=>impl_EarsOf.f k h l t) r:=by
 unfold spec_EarsOf.f impl_EarsOf.f
 by_cases g:queryOk h l t
 case neg=>exact ⟨([],false,false),by simp [okEarS],Ev.bind (specGoodQ_ev h l t hh ht hl hx) (Ev.neg (by rw [tell_no g];simp) (Ev.const rfl)),Ev.bind (implGoodQ_ev h l t ht hl) (Ev.neg (by rw [tell_no g];simp) (Ev.const rfl))⟩
 have hlen:=g.len5
 have hlen1:=g.len1
 have hv:at5 l:=fun a ha=>⟨atom_len g.tab (g.atoms _ ha),(g.atoms _ ha).2.2.2⟩
 have hin:∀ n,n≤l.length→∀ o∈(List.range n).map (fun (j:Nat)=>(j:Int)),inR l o:=fun n hn o ho=>by
  obtain ⟨j,hj,rfl⟩:=List.mem_map.1 ho
  have:=List.mem_range.1 hj
  exact ⟨by omega,by omega⟩
 obtain ⟨e1,e2,e3⟩:=ears_ev h l hlen hv l.length ((List.range l.length).map fun (j:Nat)=>(j:Int)) [] (by simp) (by simpa using hlen1) (hin _ (Nat.le_refl _)) (by simp;omega)
 generalize earsP l l.length ((List.range l.length).map fun (j:Nat)=>(j:Int)) []=R at *
 have hstep:∀ i:Nat,(List.range i).map (fun (j:Nat)=>(j:Int))++[(i:Int)]=(List.range (i + 1)).map (fun (j:Nat)=>(j:Int)):=fun i=>by rw [List.range_succ,List.map_append];rfl
 refine ⟨(R.1,R.2,true),by show R.1.length≤1048576;omega,Ev.bind (specGoodQ_ev h l t hh ht hl hx) (Ev.pos (tell_yes g) (Ev.bind (a:=R) ?_ (Ev.const rfl))),Ev.bind (implGoodQ_ev h l t ht hl) (Ev.pos (tell_yes g) (Ev.bind (a:=R) ?_ (Ev.const rfl)))⟩
 ·unfold spec_l11Ears.f
  have loop:=loop_up (n:=l.length) (P:=fun i=>Ev (fun k=>spec_l11Ears.l0 k ((List.range i).map fun (j:Nat)=>(j:Int)) (l.length:Int) (i:Int) h l) R) ?_ ?_
  ·exact loop 0 (Nat.zero_le _)
  ·refine Ev.succ ?_
   simp only [spec_l11Ears.l0]
   exact Ev.neg (by omega) e1
  ·intro i hi ih
   refine Ev.succ ?_
   simp only [spec_l11Ears.l0]
   rw [wrap_add (by omega) (by omega),hstep]
   exact Ev.pos (by omega) (Ev.pos (by simp;omega) ih)
 ·unfold impl_ears.f
  refine Ev.bind (edgesI_ev h l (by omega) (fun a ha=>⟨by have:=(hv a ha).1;omega,(hv a ha).2⟩)) ?_
  have hel:(edgesI l).length=l.length:=by simp [edgesI]
  rw [hel]
  have loop:=loop_up (n:=l.length) (P:=fun i=>Ev (fun k=>impl_ears.l0 k (edgesI l) ((List.range i).map fun (j:Nat)=>(j:Int)) (l.length:Int) (i:Int)) R) ?_ ?_
  ·exact loop 0 (Nat.zero_le _)
  ·refine Ev.succ ?_
   simp only [impl_ears.l0]
   exact Ev.neg (by omega) e2
  ·intro i hi ih
   refine Ev.succ ?_
   simp only [impl_ears.l0]
   rw [wrap_add (by omega) (by omega),hstep]
   exact Ev.pos (by omega) (Ev.pos (by simp;omega) ih)
theorem FnExactEarsOf : laws_FnExactEarsOf.Pure:=by
 intro h l t w0 w1 w2 ht hz
 obtain ⟨q0,q1,q2,_⟩:=okQuery_cv hz
 obtain ⟨r,h0,h1,h2⟩:=both h (cvAtomS l) t q0 ht q1 q2
 obtain ⟨K1,k1⟩:=h1
 obtain ⟨K2,k2⟩:=h2
 exact ⟨K1 + K2,r,k1 _ (by omega),k2 _ (by omega),h0⟩
end Go.Proofs.Ytboligpcbndkjaa.Pure
