/- What CoreOf's law comes to, in numbers and lists alone: the program's core is the reference's. -/
import Derived.Test.YtboligpcbndkjaaPFnExactCoreOfx9
import Derived.Test.YtboligpcbndkjaaEv
namespace Go.Proofs.Ytboligpcbndkjaa.Pure
open Go.RowKit Go.Proofs.Ytboligpcbndkjaa.PFnExactCoreOf Go.Proofs.YtboligpcbndkjaaW.PrintWords Go.Proofs.YtboligpcbndkjaaW.PrintLast Go.Proofs.YtboligpcbndkjaaW.PrintMore
set_option linter.unusedVariables false
set_option linter.unusedSimpArgs false

/-- The numbers of a set, rising. -/
def setL (s:Int):List Int:=((List.range 6).filter (fun k=>s.toNat.testBit k)).map (fun (k:Nat)=>(k:Int))
theorem setL_mem {s x:Int} (h:x∈setL s):0≤x∧x≤5:=by
 simp only [setL,List.mem_map,List.mem_filter,List.mem_range] at h
 obtain ⟨k,⟨hk,_⟩,rfl⟩:=h
 omega
theorem setL_some (s:Int) (h0:0≤s) (h1:s < 64):impl_set_list.f 8 s=some (setL s):=by
 have key:∀ n:Fin 64,impl_set_list.f 8 (n.val:Int)=some (setL (n.val:Int)):=by decide +kernel
 have:=key ⟨s.toNat,by omega⟩
 simpa [Int.toNat_of_nonneg h0] using this
theorem setL_ev (s:Int) (h0:0≤s) (h1:s < 64):Ev (fun k=>impl_set_list.f k s) (setL s):=Ev.of (fun k=>impl_set_list.mono s k) (setL_some s h0 h1)
/-- A number put to its place, once. -/
def putL (l:List Int) (n:Int):List Int:=if l.contains n then l else l.take (l.takeWhile (fun x=>decide (x < n))).length++n :: l.drop (l.takeWhile (fun x=>decide (x < n))).length
def orB (s n:Int):Int:=Go.bits .or .i64 s (shl .i64 1 n)
def isSet (s:Int):Prop:=0≤s∧s < 64
theorem fin_set {s:Int} (h:isSet s):∃ m:Fin 64,s=(m.val:Int):=⟨⟨s.toNat,by have:=h.1;have:=h.2;omega⟩,by have:=h.1;simp;omega⟩
theorem fin_num {n:Int} (h0:0≤n) (h5:n≤5):∃ m:Fin 6,n=(m.val:Int):=⟨⟨n.toNat,by omega⟩,by simp;omega⟩
theorem orB_ok {s n:Int} (h:isSet s) (h0:0≤n) (h5:n≤5):isSet (orB s n)∧setL (orB s n)=putL (setL s) n:=by
 obtain ⟨a,rfl⟩:=fin_set h
 obtain ⟨b,rfl⟩:=fin_num h0 h5
 have key:∀ a:Fin 64,∀ b:Fin 6,(0≤orB (a.val:Int) (b.val:Int)∧orB (a.val:Int) (b.val:Int) < 64)∧setL (orB (a.val:Int) (b.val:Int))=putL (setL (a.val:Int)) (b.val:Int):=by decide +kernel
 exact key a b
theorem setL_nil {s:Int} (h:isSet s):s=0↔setL s=[]:=by
 obtain ⟨a,rfl⟩:=fin_set h
 have key:∀ a:Fin 64,(a.val:Int)=0↔setL (a.val:Int)=[]:=by decide +kernel
 exact key a
theorem setL_len (s:Int):(setL s).length≤6:=by
 unfold setL
 rw [List.length_map]
 exact Nat.le_trans (List.length_filter_le _ _) (by simp)
theorem putL_len (l:List Int) (n:Int):(putL l n).length≤l.length + 1:=by
 unfold putL
 split
 ·omega
 ·simp;omega

def hasB (a b:Int):Bool:=Go.bits .and .i64 a b == b
def orS (a b:Int):Int:=Go.bits .or .i64 a b
theorem mem_setL {m:Fin 64} {x:Int}:x∈setL (m.val:Int)↔∃ k:Fin 6,x=(k.val:Int)∧m.val.testBit k.val=true:=by
 simp only [setL,List.mem_map,List.mem_filter,List.mem_range,Int.toNat_natCast]
 constructor
 ·rintro ⟨k,⟨hk,hb⟩,rfl⟩;exact ⟨⟨k,hk⟩,rfl,hb⟩
 ·rintro ⟨k,rfl,hb⟩;exact ⟨k.val,⟨k.isLt,hb⟩,rfl⟩
theorem orS_set {a b:Int} (ha:isSet a) (hb:isSet b):isSet (orS a b):=by
 obtain ⟨a,rfl⟩:=fin_set ha
 obtain ⟨b,rfl⟩:=fin_set hb
 have key:∀ a b:Fin 64,0≤orS (a.val:Int) (b.val:Int)∧orS (a.val:Int) (b.val:Int) < 64:=by decide +kernel
 exact key a b
theorem hasB_iff {a b:Int} (ha:isSet a) (hb:isSet b):hasB a b=(setL b).all (fun x=>(setL a).contains x):=by
 obtain ⟨a,rfl⟩:=fin_set ha
 obtain ⟨b,rfl⟩:=fin_set hb
 have key:∀ a b:Fin 64,hasB (a.val:Int) (b.val:Int)=(setL (b.val:Int)).all (fun x=>(setL (a.val:Int)).contains x):=by decide +kernel
 exact key a b
theorem orS_fold {a b:Int} (ha:isSet a) (hb:isSet b):setL (orS a b)=(setL b).foldl putL (setL a):=by
 obtain ⟨a,rfl⟩:=fin_set ha
 obtain ⟨b,rfl⟩:=fin_set hb
 have key:∀ a b:Fin 64,setL (orS (a.val:Int) (b.val:Int))=(setL (b.val:Int)).foldl putL (setL (a.val:Int)):=by decide +kernel
 exact key a b
theorem orS_len {a b:Int} (ha:isSet a) (hb:isSet b):(setL a).length≤(setL (orS a b)).length∧((setL a).length=(setL (orS a b)).length↔orS a b=a):=by
 obtain ⟨a,rfl⟩:=fin_set ha
 obtain ⟨b,rfl⟩:=fin_set hb
 have key:∀ a b:Fin 64,(setL (a.val:Int)).length≤(setL (orS (a.val:Int) (b.val:Int))).length∧((setL (a.val:Int)).length=(setL (orS (a.val:Int) (b.val:Int))).length↔orS (a.val:Int) (b.val:Int)=(a.val:Int)):=by decide +kernel
 exact key a b
theorem setL_inj {a b:Int} (ha:isSet a) (hb:isSet b) (h:setL a=setL b):a=b:=by
 obtain ⟨a,rfl⟩:=fin_set ha
 obtain ⟨b,rfl⟩:=fin_set hb
 have key:∀ a b:Fin 64,setL (a.val:Int)=setL (b.val:Int)→(a.val:Int)=(b.val:Int):=by decide +kernel
 exact key a b h
/-- The set of a list. -/
def setI (l:List Int):Int:=l.foldl orB 0
theorem orB_foldl : ∀ (l:List Int) (s:Int),isSet s→(∀ x∈l,0≤x∧x≤5)→isSet (l.foldl orB s)∧setL (l.foldl orB s)=l.foldl putL (setL s)
 | [],s,hs,_=>⟨hs,rfl⟩
 | n :: l,s,hs,h=>by
  obtain ⟨h0,h5⟩:=h n List.mem_cons_self
  obtain ⟨k1,k2⟩:=orB_ok hs h0 h5
  obtain ⟨j1,j2⟩:=orB_foldl l (orB s n) k1 (fun x hx=>h x (List.mem_cons_of_mem _ hx))
  exact ⟨j1,by rw [List.foldl_cons,j2,k2];rfl⟩
/-- Rising numbers of so many. -/
def ris (l:List Int) (c:Int):Prop:=∀ i,(hi:i < l.length)→0≤l[i]∧l[i] < c∧(0 < i→l[i - 1]'(by omega) < l[i])
theorem ris_tail {a:Int} {l:List Int} {c:Int} (h:ris (a :: l) c):ris l c:=by
 intro i hi
 have:=h (i + 1) (by simp;omega)
 simp only [List.getElem_cons_succ,Nat.add_sub_cancel] at this
 refine ⟨this.1,this.2.1,fun hp=>?_⟩
 have h3:=this.2.2 (by omega)
 obtain ⟨j,rfl⟩:∃ j,i=j + 1:=⟨i - 1,by omega⟩
 simpa using h3
theorem ris_mem {l:List Int} {c:Int} (h:ris l c):∀ x∈l,0≤x∧x < c:=by
 intro x hx
 obtain ⟨i,hi,rfl⟩:=List.getElem_of_mem hx
 exact ⟨(h i hi).1,(h i hi).2.1⟩
theorem ris_lt : ∀ {l:List Int} {a c:Int},ris (a :: l) c→∀ x∈l,a < x
 | [],_,_,_=>fun x hx=>by cases hx
 | b :: l,a,c,h=>by
  have hab:a < b:=by have:=(h 1 (by simp)).2.2 (by omega);simpa using this
  intro x hx
  rcases List.mem_cons.1 hx with rfl | hx
  ·exact hab
  ·exact Int.lt_trans hab (ris_lt (ris_tail h) x hx)
theorem ris_zero {c:Int} (h:c≤0) {l:List Int} (hl:ris l c):l=[]:=by
 cases l with
 | nil=>rfl
 | cons a l=>have:=hl 0 (by simp);simp at this;omega
/-- Numbers put to their places behind those that are less: at the end. -/
theorem putL_end (p:List Int) (n:Int) (h:∀ x∈p,x < n):putL p n=p++[n]:=by
 have hc:p.contains n=false:=by
  rw [Bool.eq_false_iff]
  intro hn
  have:=h n (by simpa using hn)
  omega
 have ht:p.takeWhile (fun x=>decide (x < n))=p:=by
  clear hc
  induction p with
  | nil=>rfl
  | cons a p ih=>rw [List.takeWhile_cons,if_pos (by simpa using h a List.mem_cons_self),ih (fun x hx=>h x (List.mem_cons_of_mem _ hx))]
 unfold putL
 rw [hc,ht,List.take_of_length_le (Nat.le_refl _),List.drop_of_length_le (Nat.le_refl _)]
 rfl
theorem foldl_putL : ∀ (l p:List Int) (c:Int),ris l c→(∀ x∈p,∀ y∈l,x < y)→l.foldl putL p=p++l
 | [],p,_,_,_=>by simp
 | n :: l,p,c,h,hp=>by
  rw [List.foldl_cons,putL_end p n (fun x hx=>hp x hx n List.mem_cons_self),foldl_putL l (p++[n]) c (ris_tail h) ?_,List.append_assoc]
  ·rfl
  ·intro x hx y hy
   rcases List.mem_append.1 hx with hx | hx
   ·exact hp x hx y (List.mem_cons_of_mem _ hy)
   ·obtain rfl:x=n:=by simpa using hx
    exact ris_lt h y hy
theorem setI_ok {l:List Int} {c:Int} (h:ris l c) (hc:c≤6):isSet (setI l)∧setL (setI l)=l:=by
 obtain ⟨k1,k2⟩:=orB_foldl l 0 ⟨by omega,by omega⟩ (fun x hx=>by have:=ris_mem h x hx;omega)
 refine ⟨k1,?_⟩
 unfold setI
 rw [k2,show setL 0=[] from by decide +kernel,foldl_putL l [] c h (fun x hx=>by cases hx)]
 rfl
theorem ris_len {l:List Int} {c:Int} (h:ris l c) (hc:c≤6):l.length≤6:=by
 rw [← (setI_ok h hc).2];exact setL_len _
def andS (a b:Int):Int:=Go.bits .and .i64 a b
def minusS (a b:Int):Int:=Go.bits .andNot .i64 a b
theorem andS_eq {a b:Int} (ha:isSet a) (hb:isSet b):isSet (andS a b)∧setL (andS a b)=(setL a).filter (fun x=>(setL b).contains x):=by
 obtain ⟨a,rfl⟩:=fin_set ha
 obtain ⟨b,rfl⟩:=fin_set hb
 have key:∀ a b:Fin 64,(0≤andS (a.val:Int) (b.val:Int)∧andS (a.val:Int) (b.val:Int) < 64)∧setL (andS (a.val:Int) (b.val:Int))=(setL (a.val:Int)).filter (fun x=>(setL (b.val:Int)).contains x):=by decide +kernel
 exact key a b
theorem minusS_eq {a b:Int} (ha:isSet a) (hb:isSet b):isSet (minusS a b)∧setL (minusS a b)=(setL a).filter (fun x=>!(setL b).contains x):=by
 obtain ⟨a,rfl⟩:=fin_set ha
 obtain ⟨b,rfl⟩:=fin_set hb
 have key:∀ a b:Fin 64,(0≤minusS (a.val:Int) (b.val:Int)∧minusS (a.val:Int) (b.val:Int) < 64)∧setL (minusS (a.val:Int) (b.val:Int))=(setL (a.val:Int)).filter (fun x=>!(setL (b.val:Int)).contains x):=by decide +kernel
 exact key a b
theorem mem_putL (l:List Int) (n x:Int):x∈putL l n↔x=n ∨ x∈l:=by
 unfold putL
 split
 ·rename_i h
  have h2:n∈l:=by simpa using h
  exact ⟨.inr,fun h3=>h3.elim (fun e=>e ▸ h2) id⟩
 ·generalize (l.takeWhile fun y=>decide (y < n)).length=m
  rw [List.mem_append,List.mem_cons]
  have e:x∈l↔x∈l.take m ∨ x∈l.drop m:=by rw [← List.mem_append,List.take_append_drop]
  rw [e]
  exact ⟨fun h=>h.elim (fun h=>.inr (.inl h)) (fun h=>h.elim .inl (fun h=>.inr (.inr h))),fun h=>h.elim (fun h=>.inr (.inl h)) (fun h=>h.elim .inl (fun h=>.inr (.inr h)))⟩
theorem mem_foldl_putL : ∀ (l p:List Int) (x:Int),x∈l.foldl putL p↔x∈p ∨ x∈l
 | [],p,x=>by simp
 | n :: l,p,x=>by
  rw [List.foldl_cons,mem_foldl_putL l,mem_putL,List.mem_cons]
  exact ⟨fun h=>h.elim (fun h=>h.elim (fun h=>.inr (.inl h)) .inl) (fun h=>.inr (.inr h)),fun h=>h.elim (fun h=>.inl (.inr h)) (fun h=>h.elim (fun h=>.inl (.inl h)) .inr)⟩
theorem mem_or {a b:Int} (ha:isSet a) (hb:isSet b) (x:Int):x∈setL (orS a b)↔x∈setL a ∨ x∈setL b:=by rw [orS_fold ha hb,mem_foldl_putL]
theorem mem_and {a b:Int} (ha:isSet a) (hb:isSet b) (x:Int):x∈setL (andS a b)↔x∈setL a∧x∈setL b:=by rw [(andS_eq ha hb).2,List.mem_filter];simp
theorem mem_minus {a b:Int} (ha:isSet a) (hb:isSet b) (x:Int):x∈setL (minusS a b)↔x∈setL a∧x ∉ setL b:=by rw [(minusS_eq ha hb).2,List.mem_filter];simp
theorem mem_has {a b:Int} (ha:isSet a) (hb:isSet b):hasB a b=true↔∀ x∈setL b,x∈setL a:=by rw [hasB_iff ha hb,List.all_eq_true];simp
theorem setL_pw (s:Int):(setL s).Pairwise (· < ·):=by
 unfold setL
 rw [List.pairwise_map]
 refine List.Pairwise.imp (fun h=>by omega) ((List.pairwise_lt_range (n:=6)).filter _)
theorem pw_eq : ∀ {a b:List Int},a.Pairwise (· < ·)→b.Pairwise (· < ·)→(∀ x,x∈a↔x∈b)→a=b
 | [],[],_,_,_=>rfl
 | [],y :: b,_,_,h=>absurd ((h y).2 List.mem_cons_self) (by simp)
 | x :: a,[],_,_,h=>absurd ((h x).1 List.mem_cons_self) (by simp)
 | x :: a,y :: b,ha,hb,h=>by
  obtain ⟨hx,ha2⟩:=List.pairwise_cons.1 ha
  obtain ⟨hy,hb2⟩:=List.pairwise_cons.1 hb
  have e:x=y:=by
   rcases List.mem_cons.1 ((h x).1 List.mem_cons_self) with e | m
   ·exact e
   ·rcases List.mem_cons.1 ((h y).2 List.mem_cons_self) with e | m2
    ·exact e.symm
    ·have:=hy x m;have:=hx y m2;omega
  subst e
  rw [pw_eq ha2 hb2 fun z=>?_]
  constructor
  ·intro hz
   rcases List.mem_cons.1 ((h z).1 (List.mem_cons_of_mem _ hz)) with e | m
   ·have:=hx z hz;omega
   ·exact m
  ·intro hz
   rcases List.mem_cons.1 ((h z).2 (List.mem_cons_of_mem _ hz)) with e | m
   ·have:=hy z hz;omega
   ·exact m
/-- A set has another one: it is as great just if it is the same. -/
theorem sub_len {a b:Int} (ha:isSet a) (hb:isSet b) (h:∀ x∈setL b,x∈setL a):(setL b).length≤(setL a).length∧((setL b).length=(setL a).length↔a=b):=by
 obtain ⟨a,rfl⟩:=fin_set ha
 obtain ⟨b,rfl⟩:=fin_set hb
 have key:∀ a b:Fin 64,(∀ x∈setL (b.val:Int),x∈setL (a.val:Int))→(setL (b.val:Int)).length≤(setL (a.val:Int)).length∧((setL (b.val:Int)).length=(setL (a.val:Int)).length↔(a.val:Int)=(b.val:Int)):=by decide +kernel
 exact key a b h
theorem l1Has_ev (l:List Int) (x:Int) (hl:l.length≤4194304):Ev (fun k=>spec_l1Has.f k l x) (l.contains x):=by
 have loop:=loop_up (n:=l.length) (P:=fun i=>Ev (fun k=>spec_l1Has.l0 k x l (l.length:Int) (i:Int)) ((l.drop i).contains x)) ?_ ?_
 ·unfold spec_l1Has.f
  exact loop 0 (Nat.zero_le _)
 ·refine Ev.succ ?_
  simp only [spec_l1Has.l0]
  exact Ev.neg (by omega) (Ev.const (by simp))
 ·intro i hi ih
  refine Ev.succ ?_
  simp only [spec_l1Has.l0]
  refine Ev.pos (by omega) (Ev.pos (by omega) (Ev.pos (by omega) ?_))
  rw [List.drop_eq_getElem_cons hi,List.contains_cons,rd_nat hi,wrap_add (by omega) (by omega)]
  by_cases h:l[i]=x
  ·exact Ev.pos h (Ev.const (by simp [h]))
  ·have h':(x == l[i])=false:=by simpa using fun e=>h e.symm
   rw [h',Bool.false_or]
   exact Ev.neg h ih
theorem takeWhile_at (p:Int→Bool):∀ (l:List Int) (i:Nat),i≤l.length→(∀ j,(h:j < l.length)→j < i→p l[j]=true)→(∀ h:i < l.length,p l[i]=false)→(l.takeWhile p).length=i
 | [],i,hi,_,_=>by simp at hi;simp [hi]
 | a :: l,0,_,_,h2=>by have:=h2 (by simp);simp at this;simp [List.takeWhile_cons,this]
 | a :: l,i + 1,hi,h1,h2=>by
  have h0:=h1 0 (by simp) (by omega)
  simp at h0
  rw [List.takeWhile_cons,h0]
  simp only [if_true,List.length_cons]
  rw [takeWhile_at p l i (by simpa using hi) (fun j h hj=>by have:=h1 (j + 1) (by simpa using h) (by omega);simpa using this) (fun h=>by have:=h2 (by simpa using h);simpa using this)]
theorem l7Put_ev (l:List Int) (n:Int) (hl:l.length≤1000):Ev (fun k=>spec_l7Put.f k l n) (putL l n):=by
 unfold spec_l7Put.f
 refine Ev.bind (l1Has_ev l n (by omega)) ?_
 by_cases hc:l.contains n=true
 ·rw [putL,if_pos hc]
  exact Ev.pos hc (Ev.const rfl)
 ·refine Ev.neg hc ?_
  rw [putL,if_neg hc]
  have done:∀ i:Nat,i≤l.length→(∀ j,(h:j < l.length)→j < i→decide (l[j] < n)=true)→(∀ h:i < l.length,decide (l[i] < n)=false)→l.take (l.takeWhile (fun x=>decide (x < n))).length++n :: l.drop (l.takeWhile (fun x=>decide (x < n))).length=([]++l.take (i:Int).toNat)++[n]++l.drop (i:Int).toNat:=by
   intro i hi h1 h2
   rw [takeWhile_at _ l i hi h1 h2];simp
  have loop:=loop_up (n:=l.length) (P:=fun i=>(∀ j,(h:j < l.length)→j < i→decide (l[j] < n)=true)→Ev (fun k=>spec_l7Put.l0 k l n (i:Int)) (l.take (l.takeWhile (fun x=>decide (x < n))).length++n :: l.drop (l.takeWhile (fun x=>decide (x < n))).length)) ?_ ?_
  ·exact loop 0 (Nat.zero_le _) (fun j _ h=>absurd h (Nat.not_lt_zero _))
  ·intro h1
   refine Ev.succ ?_
   rw [done l.length (Nat.le_refl _) h1 (fun h=>absurd h (Nat.lt_irrefl _))]
   simp only [spec_l7Put.l0,Option.bind_some]
   refine Ev.neg (by omega) (Ev.pos (by omega) (Ev.pos (by omega) (Ev.pos (by simp;omega) (Ev.pos (by simp;omega) (Ev.pos (by simp;omega) (Ev.const rfl))))))
  ·intro i hi ih h1
   refine Ev.succ ?_
   simp only [spec_l7Put.l0,Option.bind_some]
   refine Ev.pos (by omega) (Ev.pos (by omega) ?_)
   rw [rd_nat hi,wrap_add (by omega) (by omega)]
   by_cases h:l[i] < n
   ·refine Ev.pos h (ih (fun j hj hji=>?_))
    by_cases e:j=i
    ·subst e;simpa using h
    ·exact h1 j hj (by omega)
   ·refine Ev.neg h ?_
    rw [done i (by omega) h1 (fun _=>by simpa using h)]
    exact Ev.pos (by omega) (Ev.pos (by simp;omega) (Ev.pos (by simp;omega) (Ev.pos (by simp;omega) (Ev.const rfl))))
open Classical in
noncomputable def tell (p : Prop) : Bool := decide p
theorem tell_yes {p:Prop} (h:p):tell p=true:=by simp [tell,h]
theorem tell_no {p:Prop} (h:¬ p):tell p=false:=by simp [tell,h]
theorem tell_iff {p:Prop}:tell p=true↔p:=by simp [tell]
theorem l7All_ev (a b:List Int) (ha:a.length≤4194304) (hb:b.length≤4194304):Ev (fun k=>spec_l7All.f k a b) (b.all fun x=>a.contains x):=by
 have loop:=loop_up (n:=b.length) (P:=fun i=>Ev (fun k=>spec_l7All.l0 k a b (b.length:Int) (i:Int)) ((b.drop i).all fun x=>a.contains x)) ?_ ?_
 ·exact loop 0 (Nat.zero_le _)
 ·refine Ev.succ ?_
  simp only [spec_l7All.l0]
  exact Ev.neg (by omega) (Ev.const (by simp))
 ·intro i hi ih
  refine Ev.succ ?_
  simp only [spec_l7All.l0]
  rw [rd_nat hi,wrap_add (by omega) (by omega),List.drop_eq_getElem_cons hi,List.all_cons]
  refine Ev.pos (by omega) (Ev.pos (by omega) (Ev.pos (by omega) (Ev.bind (l1Has_ev a b[i] ha) ?_)))
  cases h:a.contains b[i] with
  | true=>exact Ev.pos rfl (by simpa using ih)
  | false=>exact Ev.neg (by simp) (Ev.const (by simp))
theorem setOf_ev (l:List Int) (hl:l.length≤4194304) (h:∀ x∈l,0≤x):Ev (fun k=>impl_setOf.f k l) (setI l):=by
 have loop:=loop_up (n:=l.length) (P:=fun i=>∀ s:Int,(l.drop i).foldl orB s=setI l→Ev (fun k=>impl_setOf.l0 k s l (l.length:Int) (i:Int)) (setI l)) ?_ ?_
 ·exact loop 0 (Nat.zero_le _) 0 rfl
 ·intro s hs
  refine Ev.succ ?_
  simp only [impl_setOf.l0]
  exact Ev.neg (by omega) (Ev.const (by rw [← hs];simp))
 ·intro i hi ih s hs
  refine Ev.succ ?_
  simp only [impl_setOf.l0]
  rw [rd_nat hi,wrap_add (by omega) (by omega)]
  refine Ev.pos (by omega) (Ev.pos (by omega) (Ev.pos (by omega) (Ev.pos (h _ (List.getElem_mem hi)) (ih _ ?_))))
  rw [← hs,List.drop_eq_getElem_cons hi];rfl
/-- The reference's rounds, on lists. -/
theorem l7Put_set (s n:Int) (hs:isSet s) (h0:0≤n) (h5:n≤5):Ev (fun k=>spec_l7Put.f k (setL s) n) (setL (orB s n)):=by
 rw [(orB_ok hs h0 h5).2]
 exact l7Put_ev (setL s) n (by have:=setL_len s;omega)
/-! ### chapter 10: questions -/
def tabOk (t:List Int):Prop:=(∀ x∈t,1≤x∧x≤3)∧1≤t.length∧t.length≤4
def atomOk (t:List Int) (a:S97):Prop:=0≤a.f0∧a.f0 < (t.length:Int)∧(a.f1.length:Int)=rd t a.f0∧∀ v∈a.f1,0≤v∧v≤5
def varsFrom (s:Int) (l:List S97):Int:=l.foldl (fun s a=>a.f1.foldl orB s) s
structure queryOk (h : List Int) (l : List S97) (t : List Int) : Prop where
 tab:tabOk t
 len1:1≤l.length
 len5:l.length≤5
 head6:h.length≤6
 atoms:∀ a∈l,atomOk t a
 heads:∀ v∈h,v∈setL (varsFrom 0 l)
theorem rdA {l:List S97} {i:Nat} (h:i < l.length):rd_T97 l (i:Int)=l[i]:=by simp [rd_T97,h]
theorem ev_all {α:Type} (f:Nat→α→Option Bool) (p:α→Bool):∀ (l:List α),(∀ d∈l,Ev (fun k=>f k d) (p d))→∃ K,∀ k,K≤k→∀ d∈l,f k d=some (p d)
 | [],_=>⟨0,fun _ _ d hd=>by cases hd⟩
 | a :: l,h=>by
  obtain ⟨K1,hK1⟩:=ev_all f p l (fun x hx=>h x (List.mem_cons_of_mem _ hx))
  obtain ⟨K2,hK2⟩:=h a List.mem_cons_self
  refine ⟨K1 + K2,fun k hk d hd=>?_⟩
  rcases List.mem_cons.1 hd with rfl | hd
  ·exact hK2 k (by omega)
  ·exact hK1 k (by omega) d hd
theorem all_some {α:Type} {f:α→Option Bool} {p:α→Bool} {l:List α} (h:∀ d∈l,f d=some (p d)):(if l.all (fun d=>(f d).isSome)=true then some (l.all (fun d=>(f d).getD false)) else none)=some (l.all p):=by
 rw [if_pos (List.all_eq_true.2 fun d hd=>by rw [h d hd];rfl)]
 congr 1
 exact all_same fun d hd=>by rw [h d hd];rfl
theorem varsFrom_ok : ∀ (l:List S97) (s:Int),isSet s→(∀ a∈l,∀ v∈a.f1,0≤v∧v≤5)→isSet (varsFrom s l)
 | [],s,hs,_=>hs
 | a :: l,s,hs,h=>varsFrom_ok l (a.f1.foldl orB s) (orB_foldl a.f1 s hs (h a List.mem_cons_self)).1 (fun x hx=>h x (List.mem_cons_of_mem _ hx))
theorem setI_set {l:List Int} (h:∀ v∈l,0≤v∧v≤5):isSet (setI l)∧setL (setI l)=l.foldl putL []:=by
 obtain ⟨k1,k2⟩:=orB_foldl l 0 ⟨by omega,by omega⟩ h
 exact ⟨k1,by rw [show setI l=l.foldl orB 0 from rfl,k2,show setL 0=[] from by decide +kernel]⟩
theorem orS_setI {s:Int} {l:List Int} (hs:isSet s) (h:∀ v∈l,0≤v∧v≤5):orS s (setI l)=l.foldl orB s:=by
 obtain ⟨k1,k2⟩:=orB_foldl l s hs h
 obtain ⟨j1,j2⟩:=setI_set h
 refine setL_inj (orS_set hs j1) k1 (pw_eq (setL_pw _) (setL_pw _) fun x=>?_)
 rw [mem_or hs j1,j2,k2,mem_foldl_putL,mem_foldl_putL]
 simp
theorem l10Tables_ev (t:List Int) (hl:t.length≤1048576):Ev (fun k=>spec_l10Tables.f k t) (tell (tabOk t)):=by
 have loop:=loop_up (n:=t.length) (P:=fun i=>(∀ j,(hj:j < t.length)→j < i→1≤t[j]∧t[j]≤3)→Ev (fun k=>spec_l10Tables.l0 k t t (t.length:Int) (i:Int)) (tell (tabOk t))) ?_ ?_
 ·exact loop 0 (Nat.zero_le _) (fun j _ h=>absurd h (Nat.not_lt_zero _))
 ·intro g
  have all:∀ x∈t,1≤x∧x≤3:=fun x hx=>by obtain ⟨i,hi,rfl⟩:=List.getElem_of_mem hx;exact g i hi hi
  refine Ev.succ ?_
  simp only [spec_l10Tables.l0,spec_l1In.f]
  refine Ev.neg (by omega) ?_
  by_cases h1:(t.length:Int) ≥ 1
  ·refine Ev.bind (Ev.const (if_pos h1)) (Ev.const ?_)
   congr 1
   rw [Bool.eq_iff_iff,decide_eq_true_iff,tell_iff]
   exact ⟨fun h=>⟨all,by omega,by omega⟩,fun h=>by have:=h.2.2;omega⟩
  ·exact Ev.bind (Ev.const (if_neg h1)) (Ev.const (by rw [tell_no fun h=>h1 (by have:=h.2.1;omega)]))
 ·intro i hi ih g
  refine Ev.succ ?_
  simp only [spec_l10Tables.l0,spec_l1In.f]
  rw [rd_nat hi,wrap_add (by omega) (by omega)]
  refine Ev.pos (by omega) (Ev.pos (by omega) (Ev.pos (by omega) ?_))
  have bad:¬ (1≤t[i]∧t[i]≤3)→tell (tabOk t)=false:=fun h=>tell_no fun h2=>h (h2.1 _ (List.getElem_mem hi))
  by_cases h1:t[i] ≥ 1
  case neg=>exact Ev.bind (Ev.const (if_neg h1)) (Ev.neg (by simp) (Ev.const (by rw [bad (by omega)])))
  by_cases h2:t[i]≤3
  case neg=>exact Ev.bind (Ev.const (by rw [if_pos h1,decide_eq_false h2])) (Ev.neg (by simp) (Ev.const (by rw [bad (by omega)])))
  refine Ev.bind (Ev.const (by rw [if_pos h1,decide_eq_true h2])) (Ev.pos rfl (ih fun j hj hji=>?_))
  by_cases e:j=i
  ·subst e;exact ⟨h1,h2⟩
  ·exact g j hj (by omega)
theorem within_some (x a b:Int):impl_within.f x a b=some (decide (a≤x∧x≤b)):=by
 unfold impl_within.f
 by_cases h1:a≤x <;> simp [h1]
theorem areTables_some (t:List Int):impl_areTables.f t=some (tell (tabOk t)):=by
 unfold impl_areTables.f
 rw [within_some]
 simp only [Option.bind_some]
 have e:areAll_impl_areTables_1.f t=some (t.all fun x=>decide (1≤x∧x≤3)):=by
  unfold areAll_impl_areTables_1.f
  exact all_some fun d _=>by unfold impl_areTables_1.f;rw [within_some];rfl
 by_cases h1:(1:Int)≤t.length∧(t.length:Int)≤4
 ·rw [if_pos (by simpa using h1),e]
  simp only [Option.bind_some]
  congr 1
  rw [Bool.eq_iff_iff,List.all_eq_true,tell_iff]
  exact ⟨fun h=>⟨fun x hx=>by simpa using h x hx,by omega,by omega⟩,fun h x hx=>by simpa using h.1 x hx⟩
 ·rw [if_neg (by simpa using h1),tell_no fun h=>h1 ⟨by have:=h.2.1;omega,by have:=h.2.2;omega⟩]
theorem l10Vars_ev (h:List Int) (l:List S97) (hl:l.length≤1000) (hx:∀ a∈l,a.f1.length≤1000∧∀ v∈a.f1,0≤v∧v≤5):Ev (fun k=>spec_l10Vars.f k h l) (setL (varsFrom 0 l)):=by
 have loop:=loop_up (n:=l.length) (P:=fun i=>∀ s,isSet s→varsFrom s (l.drop i)=varsFrom 0 l→Ev (fun k=>spec_l10Vars.l0 k (setL s) l (l.length:Int) (i:Int)) (setL (varsFrom 0 l))) ?_ ?_
 ·have:=loop 0 (Nat.zero_le _) 0 ⟨by omega,by omega⟩ rfl
  rw [show setL 0=[] from by decide +kernel] at this
  exact this
 ·intro s hs e
  refine Ev.succ ?_
  simp only [spec_l10Vars.l0]
  exact Ev.neg (by omega) (Ev.const (by rw [← e];simp [varsFrom]))
 ·intro i hi ih s hs e
  obtain ⟨hln,hv⟩:=hx _ (List.getElem_mem hi)
  refine Ev.succ ?_
  simp only [spec_l10Vars.l0]
  rw [rdA hi]
  refine Ev.pos (by omega) (Ev.pos (by omega) (Ev.pos (by omega) ?_))
  rw [List.drop_eq_getElem_cons hi] at e
  have inner:=loop_up (n:=l[i].f1.length) (P:=fun j=>∀ u,isSet u→(l[i].f1.drop j).foldl orB u=l[i].f1.foldl orB s→Ev (fun k=>spec_l10Vars.l1 k (setL u) l (l.length:Int) (i:Int) l[i].f1 (l[i].f1.length:Int) (j:Int)) (setL (varsFrom 0 l))) ?_ ?_
  ·exact inner 0 (Nat.zero_le _) s hs rfl
  ·intro u hu e2
   refine Ev.succ ?_
   simp only [spec_l10Vars.l1]
   rw [wrap_add (a:=(i:Int)) (by omega) (by omega)]
   refine Ev.neg (by omega) (ih u hu ?_)
   rw [← e]
   have:u=l[i].f1.foldl orB s:=by simpa using e2
   rw [this];rfl
  ·intro j hj ihj u hu e2
   have hm:=hv _ (List.getElem_mem hj)
   refine Ev.succ ?_
   simp only [spec_l10Vars.l1]
   rw [rd_nat hj,wrap_add (a:=(j:Int)) (by omega) (by omega)]
   refine Ev.pos (by omega) (Ev.pos (by omega) (Ev.pos (by omega) (Ev.bind (l7Put_set u _ hu hm.1 hm.2) (ihj _ (orB_ok hu hm.1 hm.2).1 ?_))))
   rw [← e2,List.drop_eq_getElem_cons hj];rfl
theorem vars_ev (l:List S97) (hl:l.length≤1000) (hx:∀ a∈l,a.f1.length≤1000∧∀ v∈a.f1,0≤v∧v≤5):Ev (fun k=>impl_vars.f k l) (setL (varsFrom 0 l)):=by
 have hok:=varsFrom_ok l 0 ⟨by omega,by omega⟩ (fun a ha=>(hx a ha).2)
 have loop:=loop_up (n:=l.length) (P:=fun i=>∀ s,isSet s→varsFrom s (l.drop i)=varsFrom 0 l→Ev (fun k=>impl_vars.l0 k s l (l.length:Int) (i:Int)) (setL (varsFrom 0 l))) ?_ ?_
 ·exact loop 0 (Nat.zero_le _) 0 ⟨by omega,by omega⟩ rfl
 ·intro s hs e
  refine Ev.succ ?_
  simp only [impl_vars.l0]
  have es:s=varsFrom 0 l:=by rw [← e];simp [varsFrom]
  rw [es]
  exact Ev.neg (by omega) (Ev.bind (setL_ev _ hok.1 hok.2) (Ev.const rfl))
 ·intro i hi ih s hs e
  obtain ⟨hln,hv⟩:=hx _ (List.getElem_mem hi)
  refine Ev.succ ?_
  simp only [impl_vars.l0]
  rw [rdA hi,wrap_add (by omega) (by omega)]
  rw [List.drop_eq_getElem_cons hi] at e
  refine Ev.pos (by omega) (Ev.pos (by omega) (Ev.pos (by omega) (Ev.bind (setOf_ev l[i].f1 (by omega) (fun x hx=>(hv x hx).1)) ?_)))
  have e2:Go.bits .or .i64 s (setI l[i].f1)=l[i].f1.foldl orB s:=orS_setI hs hv
  rw [e2]
  exact ih _ (orB_foldl l[i].f1 s hs hv).1 (by rw [← e];rfl)
theorem contains_ev (l:List Int) (x:Int) (hl:l.length≤1048576):Ev (fun k=>slices_Contains_int_int.f k l x) (l.contains x):=by
 have loop:=loop_up (n:=l.length) (P:=fun i=>EvX (fun k=>slices_Index_int_int.l0 k l x (l.length:Int) (i:Int)) (fun r=>r ≥ 0↔x∈l.drop i)) ?_ ?_
 ·obtain ⟨r,hr,hp⟩:=loop 0 (Nat.zero_le _)
  unfold slices_Contains_int_int.f slices_Index_int_int.f
  refine Ev.bind hr (Ev.const ?_)
  congr 1
  rw [Bool.eq_iff_iff,decide_eq_true_iff,hp]
  simp
 ·refine EvX.succ ?_
  simp only [slices_Index_int_int.l0]
  exact EvX.neg (by omega) (EvX.const rfl (by simp))
 ·intro i hi ih
  refine EvX.succ ?_
  simp only [slices_Index_int_int.l0]
  rw [rd_nat hi,wrap_add (by omega) (by omega)]
  refine EvX.pos (by omega) (EvX.pos (by omega) (EvX.pos (by omega) ?_))
  have hd:x∈l.drop i↔x=l[i] ∨ x∈l.drop (i + 1):=by rw [List.drop_eq_getElem_cons hi,List.mem_cons]
  by_cases h:x=l[i]
  ·exact EvX.pos h (EvX.const rfl (by rw [hd];exact ⟨fun _=>.inl h,fun _=>by omega⟩))
  ·obtain ⟨r,hr,hp⟩:=ih
   refine EvX.neg h ⟨r,hr,?_⟩
   show r ≥ 0↔x∈l.drop i
   rw [hp,hd]
   exact ⟨.inr,fun h2=>h2.elim (fun e=>absurd e h) id⟩
theorem isHead_ev (h:List Int) (l:List S97) (hl:l.length≤1000) (hx:∀ a∈l,a.f1.length≤1000∧∀ v∈a.f1,0≤v∧v≤5):Ev (fun k=>impl_isHead.f k h l) (decide (h.length≤6) && h.all fun v=>(setL (varsFrom 0 l)).contains v):=by
 unfold impl_isHead.f
 refine Ev.bind (vars_ev l hl hx) ?_
 by_cases h1:(h.length:Int)≤6
 ·refine Ev.pos h1 (Ev.bind (a:=h.all fun v=>(setL (varsFrom 0 l)).contains v) ?_ (Ev.const (by rw [decide_eq_true (by omega:h.length≤6)];rfl)))
  obtain ⟨K,hK⟩:=ev_all (fun k d=>impl_isHead_1.f k d (setL (varsFrom 0 l))) (fun v=>(setL (varsFrom 0 l)).contains v) h (fun d _=>by
   unfold impl_isHead_1.f
   exact Ev.bind (contains_ev _ d (by have:=setL_len (varsFrom 0 l);omega)) (Ev.const rfl))
  refine ⟨K,fun k hk=>?_⟩
  show areAll_impl_isHead_1.f k h (setL (varsFrom 0 l))=_
  unfold areAll_impl_isHead_1.f
  exact all_some (hK k hk)
 ·exact Ev.neg h1 (Ev.const (by rw [decide_eq_false (by omega:¬ h.length≤6)];rfl))
open Classical in
theorem isQuery1_some (t:List Int) (ht:t.length≤1048576) (a:S97):impl_isQuery_1.f a.f0 a.f1 t=some (tell (atomOk t a)):=by
 unfold impl_isQuery_1.f
 rw [within_some,wrap_id (by omega) (by omega)]
 simp only [Option.bind_some]
 by_cases h1:0≤a.f0∧a.f0≤(t.length:Int) - 1
 case neg=>rw [if_neg (by simpa using h1),tell_no fun h=>h1 ⟨h.1,by have:=h.2.1;omega⟩]
 rw [if_pos (by simpa using h1),if_pos h1.1,if_pos (by omega)]
 by_cases h2:(a.f1.length:Int)=rd t a.f0
 case neg=>rw [if_neg h2,tell_no fun h=>h2 h.2.2.1]
 rw [if_pos h2]
 have e:areAll_impl_isVar.f a.f1=some (a.f1.all fun x=>decide (0≤x∧x≤5)):=by
  unfold areAll_impl_isVar.f
  exact all_some fun d _=>by unfold impl_isVar.f;rw [within_some];rfl
 rw [e]
 simp only [Option.bind_some]
 congr 1
 rw [Bool.eq_iff_iff,List.all_eq_true,tell_iff]
 exact ⟨fun h=>⟨h1.1,by omega,h2,fun v hv=>by simpa using h v hv⟩,fun h v hv=>by simpa using h.2.2.2 v hv⟩
theorem atom_len {t:List Int} (ht:tabOk t) {a:S97} (h:atomOk t a):a.f1.length≤3:=by
 have h1:=h.2.2.1
 have h2:=ht.1 (rd t a.f0) (by
  have:a.f0.toNat < t.length:=by have:=h.1;have:=h.2.1;omega
  have e:rd t a.f0=t[a.f0.toNat]:=by simp [rd,this]
  rw [e];exact List.getElem_mem this)
 omega
theorem implGoodQ_ev (h:List Int) (l:List S97) (t:List Int) (ht:t.length≤1048576) (hl:l.length≤1048576):Ev (fun k=>impl_GoodQuery.f k h l t) (tell (queryOk h l t)):=by
 unfold impl_GoodQuery.f
 rw [areTables_some]
 refine Ev.some_bind ?_
 by_cases g1:tabOk t
 case neg=>exact Ev.neg (by rw [tell_no g1];simp) (Ev.const (by rw [tell_no fun q=>g1 q.tab]))
 refine Ev.pos (tell_yes g1) (Ev.bind (a:=tell (queryOk h l t)) ?_ (Ev.const rfl))
 unfold impl_isQuery.f
 rw [within_some]
 refine Ev.some_bind ?_
 by_cases g2:(1:Int)≤l.length∧(l.length:Int)≤5
 case neg=>exact Ev.neg (by simpa using g2) (Ev.const (by rw [tell_no fun q=>g2 ⟨by have:=q.len1;omega,by have:=q.len5;omega⟩]))
 refine Ev.pos (by simpa using g2) ?_
 have e:areAll_impl_isQuery_1.f l t=some (l.all fun a=>tell (atomOk t a)):=by
  unfold areAll_impl_isQuery_1.f
  exact all_some fun d _=>isQuery1_some t ht d
 rw [e]
 refine Ev.some_bind ?_
 by_cases g3:∀ a∈l,atomOk t a
 case neg=>exact Ev.neg (by rw [List.all_eq_true];intro q;exact g3 fun a ha=>tell_iff.1 (q a ha)) (Ev.const (by rw [tell_no fun q=>g3 q.atoms]))
 refine Ev.pos (List.all_eq_true.2 fun a ha=>tell_yes (g3 a ha)) (Ev.bind (isHead_ev h l (by omega) fun a ha=>⟨by have:=atom_len g1 (g3 a ha);omega,(g3 a ha).2.2.2⟩) (Ev.const ?_))
 congr 1
 rw [Bool.eq_iff_iff,Bool.and_eq_true,decide_eq_true_iff,List.all_eq_true,tell_iff]
 exact ⟨fun q=>⟨g1,by omega,by omega,q.1,g3,fun v hv=>by simpa using q.2 v hv⟩,fun q=>⟨q.head6,fun v hv=>by simpa using q.heads v hv⟩⟩
theorem specGoodQ_ev (h:List Int) (l:List S97) (t:List Int) (hh:h.length≤1048576) (ht:t.length≤1048576) (hl:l.length≤1048576) (hx:∀ a∈l,a.f1.length≤1048576):Ev (fun k=>spec_GoodQuery.f k h l t) (tell (queryOk h l t)):=by
 have bad:∀ {p:List Int},¬ queryOk h l t→Ev (fun k=>spec_GoodQuery.j0 k t true h l) (tell (queryOk h l t)):=fun hq=>⟨1,fun k hk=>by
  obtain ⟨m,rfl⟩:∃ m,k=m + 1:=⟨k - 1,by omega⟩
  simp only [spec_GoodQuery.j0]
  rw [if_pos trivial,tell_no hq]⟩
 unfold spec_GoodQuery.f spec_l1In.f
 refine Ev.bind (l10Tables_ev t ht) ?_
 by_cases g1:tabOk t
 case neg=>exact Ev.neg (by rw [tell_no g1];simp) (bad (p:=[]) fun q=>g1 q.tab)
 refine Ev.pos (tell_yes g1) ?_
 by_cases g2:(l.length:Int) ≥ 1
 case neg=>exact Ev.bind (Ev.const (if_neg g2)) (Ev.neg (by simp) (bad (p:=[]) fun q=>g2 (by have:=q.len1;omega)))
 by_cases g3:(l.length:Int)≤5
 case neg=>exact Ev.bind (Ev.const (by rw [if_pos g2,decide_eq_false g3])) (Ev.neg (by simp) (bad (p:=[]) fun q=>g3 (by have:=q.len5;omega)))
 refine Ev.bind (Ev.const (by rw [if_pos g2,decide_eq_true g3])) (Ev.pos rfl ?_)
 by_cases g4:(h.length:Int) > 6
 ·rw [decide_eq_true g4]
  exact bad (p:=[]) fun q=>by have:=q.head6;omega
 rw [decide_eq_false g4]
 refine Ev.succ ?_
 simp only [spec_GoodQuery.j0]
 refine Ev.neg (by simp) ?_
 have loop:=loop_up (n:=l.length) (P:=fun i=>(∀ j,(hj:j < l.length)→j < i→atomOk t l[j])→Ev (fun k=>spec_GoodQuery.l0 k t l (l.length:Int) (i:Int) h l) (tell (queryOk h l t))) ?_ ?_
 ·exact loop 0 (Nat.zero_le _) (fun j _ h=>absurd h (Nat.not_lt_zero _))
 ·intro g
  have all:∀ a∈l,atomOk t a:=fun a ha=>by obtain ⟨i,hi,rfl⟩:=List.getElem_of_mem ha;exact g i hi hi
  refine Ev.succ ?_
  simp only [spec_GoodQuery.l0]
  refine Ev.neg (by omega) (Ev.bind (l10Vars_ev h l (by omega) fun a ha=>⟨by have:=atom_len g1 (all a ha);omega,(all a ha).2.2.2⟩) (Ev.bind (l7All_ev _ h (by have:=setL_len (varsFrom 0 l);omega) (by omega)) (Ev.const ?_)))
  congr 1
  rw [Bool.eq_iff_iff,List.all_eq_true,tell_iff]
  exact ⟨fun q=>⟨g1,by omega,by omega,by omega,all,fun v hv=>by simpa using q v hv⟩,fun q v hv=>by simpa using q.heads v hv⟩
 ·intro i hi ih g
  have hxi:=hx _ (List.getElem_mem hi)
  refine Ev.succ ?_
  simp only [spec_GoodQuery.l0]
  rw [rdA hi]
  refine Ev.pos (by omega) (Ev.pos (by omega) (Ev.pos (by omega) ?_))
  have no:∀ {a b:Int} {c:List Int},¬ atomOk t l[i]→Ev (fun k=>spec_GoodQuery.j2 k t l (l.length:Int) (i:Int) true h l a c) (tell (queryOk h l t)):=fun hq=>⟨1,fun k hk=>by
   obtain ⟨m,rfl⟩:∃ m,k=m + 1:=⟨k - 1,by omega⟩
   simp only [spec_GoodQuery.j2]
   rw [if_pos trivial,tell_no fun q=>hq (q.atoms _ (List.getElem_mem hi))]⟩
  by_cases h1:l[i].f0 < 0
  ·exact Ev.pos h1 (no (b:=0) fun q=>by have:=q.1;omega)
  refine Ev.neg h1 ?_
  by_cases h2:l[i].f0 ≥ (t.length:Int)
  ·exact Ev.pos h2 (no (b:=0) fun q=>by have:=q.2.1;omega)
  refine Ev.neg h2 (Ev.pos (by omega) (Ev.pos (by omega) ?_))
  by_cases h3:(l[i].f1.length:Int)=rd t l[i].f0
  case neg =>
   rw [show ((l[i].f1.length:Int) != rd t l[i].f0)=true from by simpa using h3]
   exact no (b:=0) fun q=>h3 q.2.2.1
  rw [show ((l[i].f1.length:Int) != rd t l[i].f0)=false from by simpa using h3]
  refine Ev.succ ?_
  simp only [spec_GoodQuery.j2]
  refine Ev.neg (by simp) ?_
  have inner:=loop_up (n:=l[i].f1.length) (P:=fun j=>(∀ q,(hq:q < l[i].f1.length)→q < j→0≤l[i].f1[q]∧l[i].f1[q]≤5)→Ev (fun k=>spec_GoodQuery.l1 k t l (l.length:Int) (i:Int) l[i].f1 (l[i].f1.length:Int) (j:Int) h l) (tell (queryOk h l t))) ?_ ?_
  ·exact inner 0 (Nat.zero_le _) (fun j _ h=>absurd h (Nat.not_lt_zero _))
  ·intro gv
   refine Ev.succ ?_
   simp only [spec_GoodQuery.l1]
   rw [wrap_add (a:=(i:Int)) (by omega) (by omega)]
   refine Ev.neg (by omega) (ih fun j hj hji=>?_)
   by_cases e:j=i
   ·subst e
    exact ⟨by omega,by omega,h3,fun v hv=>by obtain ⟨q,hq,rfl⟩:=List.getElem_of_mem hv;exact gv q hq hq⟩
   ·exact g j hj (by omega)
  ·intro j hj ihj gv
   refine Ev.succ ?_
   simp only [spec_GoodQuery.l1,spec_l10Var.f]
   rw [rd_nat hj,wrap_add (a:=(j:Int)) (by omega) (by omega)]
   refine Ev.pos (by omega) (Ev.pos (by omega) (Ev.pos (by omega) ?_))
   have nov:¬ (0≤l[i].f1[j]∧l[i].f1[j]≤5)→tell (queryOk h l t)=false:=fun hq=>tell_no fun q=>hq ((q.atoms _ (List.getElem_mem hi)).2.2.2 _ (List.getElem_mem hj))
   by_cases v1:l[i].f1[j] ≥ 0
   case neg=>exact Ev.bind (Ev.const (if_neg v1)) (Ev.neg (by simp) (Ev.const (by rw [nov (by omega)])))
   by_cases v2:l[i].f1[j] < 6
   case neg=>exact Ev.bind (Ev.const (by rw [if_pos v1,decide_eq_false v2])) (Ev.neg (by simp) (Ev.const (by rw [nov (by omega)])))
   refine Ev.bind (Ev.const (by rw [if_pos v1,decide_eq_true v2])) (Ev.pos rfl (ihj fun q hq hqj=>?_))
   by_cases e:q=j
   ·subst e;exact ⟨v1,by omega⟩
   ·exact gv q hq (by omega)
/-! ### chapter 10: one question in another one -/
def fitsB (vs os tt:List Int):Prop:=∀ i,(h:i < vs.length)→vs[i] < (tt.length:Int)→rd tt vs[i]=rd os i
def hasAt (pa:List S97) (a:S97) (tt:List Int):Prop:=∃ o∈pa,o.f0=a.f0∧fitsB a.f1 o.f1 tt
def mayB (ph:List Int) (pa:List S97) (qh:List Int) (qa:List S97) (tt:List Int):Prop:=fitsB qh ph tt∧∀ a∈qa,hasAt pa a tt
theorem rd_app {l r:List Int} {v:Int} (h0:0≤v) (h1:v < (l.length:Int)):rd (l++r) v=rd l v:=by
 unfold rd
 rw [List.getD_eq_getElem?_getD,List.getD_eq_getElem?_getD,List.getElem?_append_left (by omega)]
theorem fitsB_pre {vs os l r:List Int} (hv:∀ v∈vs,0≤v∧v≤5) (h:fitsB vs os (l++r)):fitsB vs os l:=fun i hi hl=>by
 rw [← h i hi (by rw [List.length_append];omega),rd_app (hv _ (List.getElem_mem hi)).1 hl]
theorem mayB_pre {ph:List Int} {pa:List S97} {qh:List Int} {qa:List S97} {l r:List Int} (hq:∀ v∈qh,0≤v∧v≤5) (hv:∀ a∈qa,∀ v∈a.f1,0≤v∧v≤5) (h:mayB ph pa qh qa (l++r)):mayB ph pa qh qa l :=
 ⟨fitsB_pre hq h.1,fun a ha=>(h.2 a ha).imp fun o ⟨ho,e,hf⟩=>⟨ho,e,fitsB_pre (hv a ha) hf⟩⟩
theorem hasAtom_ev (ph:List Int) {pa:List S97} {a:S97} {tt:List Int} (hpa:pa.length≤1000) (ha:a.f1.length≤1000) (hv:∀ v∈a.f1,0≤v∧v≤5) (hs:∀ o∈pa,o.f0=a.f0→o.f1.length=a.f1.length):Ev (fun k=>spec_l10HasAtom.f k ph pa a.f0 a.f1 tt) (tell (hasAt pa a tt)):=by
 unfold spec_l10HasAtom.f
 have loop:=loop_up (n:=pa.length) (P:=fun i=>Ev (fun k=>spec_l10HasAtom.l0 k tt pa (pa.length:Int) (i:Int) a.f0 a.f1) (tell (∃ o∈pa.drop i,o.f0=a.f0∧fitsB a.f1 o.f1 tt))) ?_ ?_
 ·exact loop 0 (Nat.zero_le _)
 ·refine Ev.succ ?_
  simp only [spec_l10HasAtom.l0]
  exact Ev.neg (by omega) (Ev.const (by rw [tell_no (by simp)]))
 ·intro i hi ih
  have hd:pa.drop i=pa[i] :: pa.drop (i + 1):=List.drop_eq_getElem_cons hi
  refine Ev.succ ?_
  simp only [spec_l10HasAtom.l0]
  rw [rdA hi,wrap_add (by omega) (by omega)]
  refine Ev.pos (by omega) (Ev.pos (by omega) (Ev.pos (by omega) ?_))
  by_cases e:pa[i].f0=a.f0
  ·refine Ev.pos e ?_
   have hl:=hs _ (List.getElem_mem hi) e
   have inner:=loop_up (n:=a.f1.length) (P:=fun j=>∀ fl:Bool,Ev (fun k=>spec_l10HasAtom.l1 k tt fl pa (pa.length:Int) (i:Int) a.f1 (a.f1.length:Int) (j:Int) a.f0 a.f1 pa[i].f0 pa[i].f1) (tell ((fl=true∧∀ n,j≤n→(h:n < a.f1.length)→a.f1[n] < (tt.length:Int)→rd tt a.f1[n]=rd pa[i].f1 n) ∨ ∃ o∈pa.drop (i + 1),o.f0=a.f0∧fitsB a.f1 o.f1 tt))) ?_ ?_
   ·have h0:=inner 0 (Nat.zero_le _) true
    refine (congrArg (Ev _) (congrArg tell (propext ?_))).mp h0
    rw [hd]
    constructor
    ·rintro (⟨_,h⟩ | ⟨o,ho,h⟩)
     ·exact ⟨_,List.mem_cons_self,e,fun n hn hh=>h n (Nat.zero_le _) hn hh⟩
     ·exact ⟨o,List.mem_cons_of_mem _ ho,h⟩
    ·rintro ⟨o,ho,h1,h2⟩
     rcases List.mem_cons.1 ho with rfl | ho
     ·exact .inl ⟨rfl,fun n _ hn hh=>h2 n hn hh⟩
     ·exact .inr ⟨o,ho,h1,h2⟩
   ·intro fl
    refine Ev.succ ?_
    simp only [spec_l10HasAtom.l1]
    rw [wrap_add (by omega) (by omega)]
    refine Ev.neg (by omega) ?_
    cases fl with
    | true=>exact Ev.pos rfl (Ev.const (by rw [tell_yes (.inl ⟨rfl,fun n h1 h2=>absurd h2 (by omega)⟩)]))
    | false =>
     refine Ev.neg (by simp) ?_
     rw [wrap_add (a:=(i:Int)) (by omega) (by omega)]
     refine (congrArg (Ev _) (congrArg tell (propext ?_))).mp ih
     simp
   ·intro j hj ihj fl
    have hm:=hv _ (List.getElem_mem hj)
    refine Ev.succ ?_
    simp only [spec_l10HasAtom.l1]
    rw [rd_nat hj,wrap_add (a:=(j:Int)) (by omega) (by omega)]
    refine Ev.pos (by omega) (Ev.pos (by omega) (Ev.pos (by omega) ?_))
    have skip:(a.f1[j] < (tt.length:Int)→rd tt a.f1[j]=rd pa[i].f1 j)→∀ n,j + 1≤n ∨ j≤n→True:=fun _ _ _=>trivial
    by_cases c1:a.f1[j] < (tt.length:Int)
    ·refine Ev.pos c1 (Ev.pos hm.1 (Ev.pos (by omega) ?_))
     by_cases c2:rd tt a.f1[j]=rd pa[i].f1 j
     ·refine Ev.pos c2 ?_
      refine (congrArg (Ev _) (congrArg tell (propext (or_congr (and_congr Iff.rfl ?_) Iff.rfl)))).mp (ihj fl)
      exact ⟨fun h n hn hl2 hh=>by rcases Nat.eq_or_lt_of_le hn with rfl | hn2;exact c2;exact h n hn2 hl2 hh,fun h n hn=>h n (by omega)⟩
     ·refine Ev.neg c2 ?_
      refine (congrArg (Ev _) (congrArg tell (propext (or_congr ?_ Iff.rfl)))).mp (ihj false)
      exact ⟨fun h=>absurd h.1 (by simp),fun h=>absurd (h.2 j (Nat.le_refl _) hj c1) c2⟩
    ·refine Ev.neg c1 ?_
     refine (congrArg (Ev _) (congrArg tell (propext (or_congr (and_congr Iff.rfl ?_) Iff.rfl)))).mp (ihj fl)
     exact ⟨fun h n hn hl2 hh=>by rcases Nat.eq_or_lt_of_le hn with rfl | hn2;exact absurd hh c1;exact h n hn2 hl2 hh,fun h n hn=>h n (by omega)⟩
  ·refine Ev.neg e ?_
   refine (congrArg (Ev _) (congrArg tell (propext ?_))).mp ih
   rw [hd]
   exact ⟨fun ⟨o,ho,h⟩=>⟨o,List.mem_cons_of_mem _ ho,h⟩,fun ⟨o,ho,h1,h2⟩=>by rcases List.mem_cons.1 ho with rfl | ho;exact absurd h1 e;exact ⟨o,ho,h1,h2⟩⟩
theorem l10May_ev {ph:List Int} {pa:List S97} {qh:List Int} {qa:List S97} {tt:List Int} (hpa:pa.length≤1000) (hqa:qa.length≤1000) (hqh:qh.length≤1000) (hl:ph.length=qh.length) (hq:∀ v∈qh,0≤v∧v≤5) (hv:∀ a∈qa,a.f1.length≤1000∧∀ v∈a.f1,0≤v∧v≤5) (hs:∀ a∈qa,∀ o∈pa,o.f0=a.f0→o.f1.length=a.f1.length):Ev (fun k=>spec_l10May.f k ph pa qh qa tt) (tell (mayB ph pa qh qa tt)):=by
 have l1:=loop_up (n:=qa.length) (P:=fun i=>Ev (fun k=>spec_l10May.l1 k tt qa (qa.length:Int) (i:Int) ph pa) (tell (∀ a∈qa.drop i,hasAt pa a tt))) ?_ ?_
 ·have l0:=loop_up (n:=qh.length) (P:=fun i=>Ev (fun k=>spec_l10May.l0 k tt qh (qh.length:Int) (i:Int) ph pa qh qa) (tell ((∀ n,i≤n→(h:n < qh.length)→qh[n] < (tt.length:Int)→rd tt qh[n]=rd ph n)∧∀ a∈qa,hasAt pa a tt))) ?_ ?_
  ·unfold spec_l10May.f
   refine (congrArg (Ev _) (congrArg tell (propext ?_))).mp (l0 0 (Nat.zero_le _))
   exact and_congr ⟨fun h n hn hh=>h n (Nat.zero_le _) hn hh,fun h n _ hn hh=>h n hn hh⟩ Iff.rfl
  ·refine Ev.succ ?_
   simp only [spec_l10May.l0]
   refine Ev.neg (by omega) ((congrArg (Ev _) (congrArg tell (propext ?_))).mp (l1 0 (Nat.zero_le _)))
   exact ⟨fun h=>⟨fun n h1 h2=>absurd h2 (by omega),h⟩,fun h=>h.2⟩
  ·intro j hj ih
   have hm:=hq _ (List.getElem_mem hj)
   refine Ev.succ ?_
   simp only [spec_l10May.l0]
   rw [rd_nat hj,wrap_add (by omega) (by omega)]
   refine Ev.pos (by omega) (Ev.pos (by omega) (Ev.pos (by omega) ?_))
   by_cases c1:qh[j] < (tt.length:Int)
   ·refine Ev.pos c1 (Ev.pos hm.1 (Ev.pos (by omega) ?_))
    by_cases c2:rd tt qh[j]=rd ph j
    ·refine Ev.pos c2 ((congrArg (Ev _) (congrArg tell (propext (and_congr ?_ Iff.rfl)))).mp ih)
     exact ⟨fun h n hn hl2 hh=>by rcases Nat.eq_or_lt_of_le hn with rfl | hn2;exact c2;exact h n hn2 hl2 hh,fun h n hn=>h n (by omega)⟩
    ·exact Ev.neg c2 (Ev.const (by rw [tell_no fun h=>c2 (h.1 j (Nat.le_refl _) hj c1)]))
   ·refine Ev.neg c1 ((congrArg (Ev _) (congrArg tell (propext (and_congr ?_ Iff.rfl)))).mp ih)
    exact ⟨fun h n hn hl2 hh=>by rcases Nat.eq_or_lt_of_le hn with rfl | hn2;exact absurd hh c1;exact h n hn2 hl2 hh,fun h n hn=>h n (by omega)⟩
 ·refine Ev.succ ?_
  simp only [spec_l10May.l1]
  exact Ev.neg (by omega) (Ev.const (by rw [tell_yes (by simp)]))
 ·intro i hi ih
  have hm:=List.getElem_mem hi
  have hd:qa.drop i=qa[i] :: qa.drop (i + 1):=List.drop_eq_getElem_cons hi
  refine Ev.succ ?_
  simp only [spec_l10May.l1]
  rw [rdA hi,wrap_add (by omega) (by omega)]
  refine Ev.pos (by omega) (Ev.pos (by omega) (Ev.pos (by omega) (Ev.bind (hasAtom_ev ph hpa (hv _ hm).1 (hv _ hm).2 (hs _ hm)) ?_)))
  by_cases c:hasAt pa qa[i] tt
  ·refine Ev.pos (tell_yes c) ((congrArg (Ev _) (congrArg tell (propext ?_))).mp ih)
   rw [hd]
   exact ⟨fun h a ha=>by rcases List.mem_cons.1 ha with rfl | ha;exact c;exact h a ha,fun h a ha=>h a (List.mem_cons_of_mem _ ha)⟩
  ·exact Ev.neg (by rw [tell_no c];simp) (Ev.const (by rw [tell_no fun h=>c (h _ (by rw [hd];exact List.mem_cons_self))]))
def outM : Option (List Int)→List Int × Bool
 | some M=>(M,true)
 | none=>([],false)
open Classical in
noncomputable def srch (ph : List Int) (pa : List S97) (qh : List Int) (qa : List S97) (own D : List Int) : Nat → List Int → Option (List Int)
 | 0,tt=>if mayB ph pa qh qa tt then some tt else none
 | n + 1,tt=>if (tt.length:Int)∈own then D.findSome? (fun x=>srch ph pa qh qa own D n (tt++[x])) else srch ph pa qh qa own D n (tt++[0])
theorem srch_may {ph:List Int} {pa:List S97} {qh:List Int} {qa:List S97} {own D:List Int}:∀ (n:Nat) (tt M:List Int),srch ph pa qh qa own D n tt=some M→∃ r,M=tt++r∧r.length=n∧mayB ph pa qh qa M
 | 0,tt,M,h=>by
  unfold srch at h
  split at h
  ·rename_i hm
   obtain rfl:=Option.some.inj h
   exact ⟨[],by simp,rfl,hm⟩
  ·cases h
 | n + 1,tt,M,h=>by
  unfold srch at h
  split at h
  ·obtain ⟨x,_,hx⟩:=List.exists_of_findSome?_eq_some h
   obtain ⟨r,hr,hl,hm⟩:=srch_may n _ _ hx
   exact ⟨x :: r,by simpa using hr,by simp [hl],hm⟩
  ·obtain ⟨r,hr,hl,hm⟩:=srch_may n _ _ h
   exact ⟨0 :: r,by simpa using hr,by simp [hl],hm⟩
open Classical in
noncomputable def outIf (c : Prop) (tt : List Int) : List Int × Bool := if c then (tt, true) else ([], false)
theorem outIf_yes {c:Prop} {tt:List Int} (h:c):outIf c tt=(tt,true):=by unfold outIf;exact if_pos h
theorem outIf_no {c:Prop} {tt:List Int} (h:¬ c):outIf c tt=([],false):=by unfold outIf;exact if_neg h
theorem outM_zero {ph:List Int} {pa:List S97} {qh:List Int} {qa:List S97} {own D tt:List Int}:outM (srch ph pa qh qa own D 0 tt)=outIf (mayB ph pa qh qa tt) tt:=by
 unfold srch
 by_cases h:mayB ph pa qh qa tt
 ·rw [if_pos h,outIf_yes h];rfl
 ·rw [if_neg h,outIf_no h];rfl
structure twoOk (ph : List Int) (pa : List S97) (qh : List Int) (qa : List S97) : Prop where
 hpa:pa.length≤1000
 hqa:qa.length≤1000
 hqh:qh.length≤1000
 hl:ph.length=qh.length
 hq:∀ v∈qh,0≤v∧v≤5
 hv:∀ a∈qa,a.f1.length≤1000∧∀ v∈a.f1,0≤v∧v≤5
 hw:∀ a∈pa,a.f1.length≤1000∧∀ v∈a.f1,0≤v∧v≤5
 hs:∀ a∈qa,∀ o∈pa,o.f0=a.f0→o.f1.length=a.f1.length
theorem map6_ev {ph:List Int} {pa:List S97} {qh:List Int} {qa:List S97} (T:twoOk ph pa qh qa) {tt:List Int} (ht:tt.length=6) (own D:List Int):Ev (fun k=>spec_l10Map.l0 k tt qh (qh.length:Int) 0 ph pa qh qa) (outM (srch ph pa qh qa own D 0 tt)):=by
 rw [outM_zero]
 have l1:=loop_up (n:=qa.length) (P:=fun i=>Ev (fun k=>spec_l10Map.l1 k tt qa (qa.length:Int) (i:Int) ph pa) (outIf (∀ a∈qa.drop i,hasAt pa a tt) tt)) ?_ ?_
 ·have l0:=loop_up (n:=qh.length) (P:=fun i=>Ev (fun k=>spec_l10Map.l0 k tt qh (qh.length:Int) (i:Int) ph pa qh qa) (outIf ((∀ n,i≤n→(h:n < qh.length)→qh[n] < (tt.length:Int)→rd tt qh[n]=rd ph n)∧∀ a∈qa,hasAt pa a tt) tt)) ?_ ?_
  ·have e:((∀ n,0≤n→(h:n < qh.length)→qh[n] < (tt.length:Int)→rd tt qh[n]=rd ph n)∧∀ a∈qa,hasAt pa a tt)=mayB ph pa qh qa tt:=propext (and_congr ⟨fun h n hn hh=>h n (Nat.zero_le _) hn hh,fun h n _ hn hh=>h n hn hh⟩ Iff.rfl)
   have:=l0 0 (Nat.zero_le _)
   rw [e] at this
   exact this
  ·refine Ev.succ ?_
   simp only [spec_l10Map.l0]
   refine Ev.neg (by omega) ?_
   have:=l1 0 (Nat.zero_le _)
   have e:(∀ a∈qa.drop 0,hasAt pa a tt)=((∀ n,qh.length≤n→(h:n < qh.length)→qh[n] < (tt.length:Int)→rd tt qh[n]=rd ph n)∧∀ a∈qa,hasAt pa a tt):=propext ⟨fun h=>⟨fun n h1 h2=>absurd h2 (by omega),h⟩,fun h=>h.2⟩
   rw [e] at this
   exact this
  ·intro j hj ih
   have hm:=T.hq _ (List.getElem_mem hj)
   have hl:=T.hl
   have hqh:=T.hqh
   refine Ev.succ ?_
   simp only [spec_l10Map.l0]
   rw [rd_nat hj,wrap_add (by omega) (by omega)]
   refine Ev.pos (by omega) (Ev.pos (by omega) (Ev.pos (by omega) (Ev.pos hm.1 (Ev.pos (by omega) (Ev.pos (by omega) ?_)))))
   by_cases c2:rd tt qh[j]=rd ph j
   ·refine Ev.pos c2 ?_
    have e:((∀ n,j + 1≤n→(h:n < qh.length)→qh[n] < (tt.length:Int)→rd tt qh[n]=rd ph n)∧∀ a∈qa,hasAt pa a tt)=((∀ n,j≤n→(h:n < qh.length)→qh[n] < (tt.length:Int)→rd tt qh[n]=rd ph n)∧∀ a∈qa,hasAt pa a tt):=propext (and_congr ⟨fun h n hn hl2 hh=>by rcases Nat.eq_or_lt_of_le hn with rfl | hn2;exact c2;exact h n hn2 hl2 hh,fun h n hn=>h n (by omega)⟩ Iff.rfl)
    rw [e] at ih
    exact ih
   ·exact Ev.neg c2 (Ev.const (by rw [outIf_no fun h=>c2 (h.1 j (Nat.le_refl _) hj (by omega))]))
 ·refine Ev.succ ?_
  simp only [spec_l10Map.l1]
  exact Ev.neg (by omega) (Ev.some_bind (Ev.pos (by simp;omega) (Ev.const (by rw [outIf_yes (by simp)];rfl))))
 ·intro i hi ih
  have hm:=List.getElem_mem hi
  have hd:qa.drop i=qa[i] :: qa.drop (i + 1):=List.drop_eq_getElem_cons hi
  have hqa:=T.hqa
  refine Ev.succ ?_
  simp only [spec_l10Map.l1]
  rw [rdA hi,wrap_add (by omega) (by omega)]
  refine Ev.pos (by omega) (Ev.pos (by omega) (Ev.pos (by omega) (Ev.bind (hasAtom_ev ph T.hpa (T.hv _ hm).1 (T.hv _ hm).2 (T.hs _ hm)) ?_)))
  by_cases c:hasAt pa qa[i] tt
  ·refine Ev.pos (tell_yes c) ?_
   have e:(∀ a∈qa.drop (i + 1),hasAt pa a tt)=∀ a∈qa.drop i,hasAt pa a tt:=by rw [hd];exact propext ⟨fun h a ha=>by rcases List.mem_cons.1 ha with rfl | ha;exact c;exact h a ha,fun h a ha=>h a (List.mem_cons_of_mem _ ha)⟩
   rw [e] at ih
   exact ih
  ·exact Ev.neg (by rw [tell_no c];simp) (Ev.const (by rw [outIf_no fun h=>c (h _ (by rw [hd];exact List.mem_cons_self))]))
theorem map_ev {ph:List Int} {pa:List S97} {qh:List Int} {qa:List S97} (T:twoOk ph pa qh qa):∀ (n:Nat) (tt:List Int),n + tt.length=6→Ev (fun k=>spec_l10Map.f k ph pa qh qa (tt.length:Int) tt) (outM (srch ph pa qh qa (setL (varsFrom 0 qa)) (setL (varsFrom 0 pa)) n tt))
 | 0,tt,h=>by
  refine Ev.succ ?_
  simp only [spec_l10Map.f]
  exact Ev.pos (by omega) (map6_ev T (by omega) _ _)
 | n + 1,tt,h=>by
  have hn:=setL_len (varsFrom 0 pa)
  have hn2:=setL_len (varsFrom 0 qa)
  have next:∀ x,Ev (fun k=>spec_l10Map.f k ph pa qh qa (wrap64 ((tt.length:Int) + 1)) (tt++[x])) (outM (srch ph pa qh qa (setL (varsFrom 0 qa)) (setL (varsFrom 0 pa)) n (tt++[x]))):=fun x=>by
   have:=map_ev T n (tt++[x]) (by simp;omega)
   rw [wrap_add (by omega) (by omega)]
   simpa using this
  refine Ev.succ ?_
  simp only [spec_l10Map.f]
  refine Ev.neg (by omega) (Ev.bind (l10Vars_ev qh qa T.hqa T.hv) (Ev.bind (l1Has_ev _ _ (by omega)) ?_))
  unfold srch
  by_cases c:(tt.length:Int)∈setL (varsFrom 0 qa)
  ·refine Ev.pos (by simpa using c) (Ev.bind (l10Vars_ev ph pa T.hpa T.hw) ?_)
   rw [if_pos c]
   generalize hD:setL (varsFrom 0 pa)=D at hn next
   have l2:=loop_up (n:=D.length) (P:=fun i=>Ev (fun k=>spec_l10Map.l2 k (tt.length:Int) tt D (D.length:Int) (i:Int) ph pa qh qa) (outM ((D.drop i).findSome? fun x=>srch ph pa qh qa (setL (varsFrom 0 qa)) D n (tt++[x])))) ?_ ?_
   ·exact l2 0 (Nat.zero_le _)
   ·refine Ev.succ ?_
    simp only [spec_l10Map.l2]
    exact Ev.neg (by omega) (Ev.const (by simp [outM]))
   ·intro i hi ih
    refine Ev.succ ?_
    simp only [spec_l10Map.l2]
    rw [rd_nat hi,wrap_add (a:=(i:Int)) (by omega) (by omega),List.drop_eq_getElem_cons hi,List.findSome?_cons]
    refine Ev.pos (by omega) (Ev.pos (by omega) (Ev.pos (by omega) (Ev.some_bind (Ev.pos (by simp;omega) (Ev.some_bind (Ev.some_bind (Ev.pos (by simp;omega) (Ev.some_bind (Ev.bind (l10May_ev T.hpa T.hqa T.hqh T.hl T.hq T.hv T.hs) ?_)))))))))
    have nx:=next D[i]
    by_cases m:mayB ph pa qh qa (tt++[D[i]])
    ·refine Ev.pos (by rw [List.nil_append];exact tell_yes m) ?_
     rw [List.nil_append]
     refine Ev.bind nx ?_
     cases hh:srch ph pa qh qa (setL (varsFrom 0 qa)) D n (tt++[D[i]]) with
     | some M=>exact Ev.pos rfl (Ev.const rfl)
     | none=>exact Ev.neg (by simp [outM]) ih
    ·refine Ev.neg (by rw [List.nil_append,tell_no m];simp) ?_
     cases hh:srch ph pa qh qa (setL (varsFrom 0 qa)) D n (tt++[D[i]]) with
     | some M =>
      obtain ⟨r,rfl,_,hm⟩:=srch_may n _ _ hh
      exact absurd (mayB_pre T.hq (fun a ha=>(T.hv a ha).2) hm) m
     | none=>exact ih
  ·refine Ev.neg (by simpa using c) ?_
   rw [if_neg c]
   exact Ev.some_bind (Ev.pos (by simp;omega) (Ev.some_bind (Ev.some_bind (Ev.pos (by simp;omega) (Ev.bind (next 0) (Ev.const rfl))))))
theorem any_some {α:Type} {f:α→Option Bool} {p:α→Bool} {l:List α} (h:∀ d∈l,f d=some (p d)):(if l.all (fun d=>(f d).isSome)=true then some (l.any (fun d=>(f d).getD false)) else none)=some (l.any p):=by
 rw [if_pos (List.all_eq_true.2 fun d hd=>by rw [h d hd];rfl)]
 congr 1
 exact any_same fun d hd=>by rw [h d hd];rfl
theorem mapped_ev {L vs:List Int} (hv:vs.length≤1000) (h:∀ v∈vs,0≤v∧v < (L.length:Int)):Ev (fun k=>impl_mapped.f k L vs) (vs.map (rd L)):=by
 have loop:=loop_up (n:=vs.length) (P:=fun i=>Ev (fun k=>impl_mapped.l0 k L ((vs.take i).map (rd L)) vs (vs.length:Int) (i:Int)) (vs.map (rd L))) ?_ ?_
 ·exact loop 0 (Nat.zero_le _)
 ·refine Ev.succ ?_
  simp only [impl_mapped.l0]
  exact Ev.neg (by omega) (Ev.const (by simp))
 ·intro i hi ih
  have hm:=h _ (List.getElem_mem hi)
  refine Ev.succ ?_
  simp only [impl_mapped.l0]
  rw [rd_nat hi,wrap_add (by omega) (by omega)]
  refine Ev.pos (by omega) (Ev.pos (by omega) (Ev.pos (by omega) (Ev.pos hm.1 (Ev.pos hm.2 (Ev.pos (by simp;omega) ?_)))))
  rw [show (vs.take i).map (rd L)++[rd L vs[i]]=(vs.take (i + 1)).map (rd L) by rw [List.take_succ_eq_append_getElem hi,List.map_append];rfl]
  exact ih
theorem equal_ev {a b:List Int} (ha:a.length≤1000):Ev (fun k=>slices_Equal_int_int.f k a b) (tell (a=b)):=by
 unfold slices_Equal_int_int.f
 by_cases hl:a.length=b.length
 ·have loop:=loop_up (n:=a.length) (P:=fun i=>Ev (fun k=>slices_Equal_int_int.l0 k a b (a.length:Int) (i:Int)) (tell (a.drop i=b.drop i))) ?_ ?_
  ·exact Ev.pos (by omega) (loop 0 (Nat.zero_le _))
  ·refine Ev.succ ?_
   simp only [slices_Equal_int_int.l0]
   exact Ev.neg (by omega) (Ev.const (by rw [tell_yes (by rw [List.drop_length,hl,List.drop_length])]))
  ·intro i hi ih
   have hi2:i < b.length:=by omega
   refine Ev.succ ?_
   simp only [slices_Equal_int_int.l0]
   have hd:(a.drop i=b.drop i)=(a[i]=b[i]∧a.drop (i + 1)=b.drop (i + 1)):=by rw [List.drop_eq_getElem_cons hi,List.drop_eq_getElem_cons hi2,List.cons.injEq]
   rw [rd_nat hi,rd_nat hi2,wrap_add (by omega) (by omega),hd]
   refine Ev.pos (by omega) (Ev.pos (by omega) (Ev.pos (by omega) (Ev.pos (by omega) ?_)))
   by_cases c:a[i]=b[i]
   ·refine Ev.pos c ((congrArg (Ev _) (congrArg tell (propext ?_))).mp ih)
    simp [c]
   ·exact Ev.neg c (Ev.const (by rw [tell_no (fun h=>c h.1)]))
 ·exact Ev.neg (by omega) (Ev.const (by rw [tell_no (fun h=>hl (by rw [h]))]))
theorem fits_map {vs os L:List Int} (hL:L.length=6) (hl:os.length=vs.length) (hv:∀ v∈vs,0≤v∧v≤5):fitsB vs os L↔vs.map (rd L)=os:=by
 constructor
 ·intro h
  refine List.ext_getElem (by simp [hl]) fun i h1 h2=>?_
  have hi:i < vs.length:=by simpa using h1
  have hm:=hv _ (List.getElem_mem hi)
  rw [List.getElem_map,h i hi (by omega),rd_nat h2]
 ·rintro rfl i hi _
  rw [rd_nat (by simpa using hi),List.getElem_map]
theorem isMap11_ev {L:List Int} (hL:L.length=6) (a b:S97) (ha:a.f1.length≤1000∧∀ v∈a.f1,0≤v∧v≤5) (hs:b.f0=a.f0→b.f1.length=a.f1.length):Ev (fun k=>impl_isMap_1_1.f k b.f0 b.f1 a.f0 a.f1 L) (tell (b.f0=a.f0∧fitsB a.f1 b.f1 L)):=by
 unfold impl_isMap_1_1.f
 by_cases e:b.f0=a.f0
 ·refine Ev.pos e (Ev.bind (mapped_ev ha.1 (fun v hv=>by have:=ha.2 v hv;omega)) (Ev.bind (equal_ev (by simpa using ha.1)) (Ev.const ?_)))
  congr 2
  exact propext ⟨fun h=>⟨e,(fits_map hL (hs e) ha.2).2 h⟩,fun h=>(fits_map hL (hs e) ha.2).1 h.2⟩
 ·exact Ev.neg e (Ev.const (by rw [tell_no fun h=>e h.1]))
theorem anyTell {α:Type} {P:α→Prop} {l:List α}:(l.any fun a=>tell (P a))=tell (∃ a∈l,P a):=by
 rw [Bool.eq_iff_iff,List.any_eq_true,tell_iff]
 exact ⟨fun ⟨a,h,p⟩=>⟨a,h,tell_iff.1 p⟩,fun ⟨a,h,p⟩=>⟨a,h,tell_iff.2 p⟩⟩
theorem allTell {α:Type} {P:α→Prop} {l:List α}:(l.all fun a=>tell (P a))=tell (∀ a∈l,P a):=by
 rw [Bool.eq_iff_iff,List.all_eq_true,tell_iff]
 exact ⟨fun h a m=>tell_iff.1 (h a m),fun h a m=>tell_iff.2 (h a m)⟩
theorem isMap_ev {ph:List Int} {pa:List S97} {qh:List Int} {qa:List S97} (T:twoOk ph pa qh qa) {L:List Int} (hL:L.length=6):Ev (fun k=>impl_isMap.f k L ph pa qh qa) (tell (mayB ph pa qh qa L)):=by
 have hany:∀ a∈qa,Ev (fun k=>impl_isMap_1.f k a.f0 a.f1 ph pa L) (tell (hasAt pa a L)):=fun a ha=>by
  unfold impl_isMap_1.f
  refine Ev.bind (a:=tell (hasAt pa a L)) ?_ (Ev.const rfl)
  obtain ⟨K,hK⟩:=ev_all (fun k (b:S97)=>impl_isMap_1_1.f k b.f0 b.f1 a.f0 a.f1 L) (fun b=>tell (b.f0=a.f0∧fitsB a.f1 b.f1 L)) pa (fun b hb=>isMap11_ev hL a b (T.hv a ha) (T.hs a ha b hb))
  refine ⟨K,fun k hk=>?_⟩
  show anyf_impl_isMap_1_1.f k pa a.f0 a.f1 L=_
  unfold anyf_impl_isMap_1_1.f
  rw [any_some (hK k hk),anyTell]
  rfl
 unfold impl_isMap.f
 refine Ev.bind (mapped_ev T.hqh (fun v hv=>by have:=T.hq v hv;omega)) (Ev.bind (equal_ev (by have:=T.hqh;simpa using this)) ?_)
 by_cases c:qh.map (rd L)=ph
 ·refine Ev.pos (tell_yes c) (Ev.bind (a:=tell (∀ a∈qa,hasAt pa a L)) ?_ (Ev.const ?_))
  ·obtain ⟨K,hK⟩:=ev_all (fun k (a:S97)=>impl_isMap_1.f k a.f0 a.f1 ph pa L) (fun a=>tell (hasAt pa a L)) qa hany
   refine ⟨K,fun k hk=>?_⟩
   show areAll_impl_isMap_1.f k qa ph pa L=_
   unfold areAll_impl_isMap_1.f
   rw [all_some (hK k hk),allTell]
  ·congr 2
   exact propext ⟨fun h=>⟨(fits_map hL T.hl T.hq).2 c,h⟩,fun h=>h.2⟩
 ·exact Ev.neg (by rw [tell_no c];simp) (Ev.const (by rw [tell_no fun h=>c ((fits_map hL T.hl T.hq).1 h.1)]))
def outF (L:List Int):Option (List Int)→Bool × List Int
 | some M=>(true,M)
 | none=>(false,L)
theorem set_mid (tt r:List Int) (y x:Int):(tt++y :: r).set tt.length x=tt++x :: r:=by
 rw [List.set_append_right _ _ (Nat.le_refl _)];simp
theorem find_ev {ph:List Int} {pa:List S97} {qh:List Int} {qa:List S97} (T:twoOk ph pa qh qa) {own D:List Int} (hp:own.Pairwise (· < ·)) (ho:∀ v∈own,0≤v∧v≤5):∀ (n:Nat) (tt:List Int) (i:Nat),n + tt.length=6→i≤own.length →
  (∀ j,j < i→(h:j < own.length)→own[j] < (tt.length:Int))→(∀ j,i≤j→(h:j < own.length)→(tt.length:Int)≤own[j]) →
  Ev (fun k=>contained1.f k own D ph pa qh qa (tt++List.replicate n 0) i) (outF (tt++List.replicate n 0) (srch ph pa qh qa own D n tt))
 | 0,tt,i,hn,hi,hlo,hhi=>by
  have e:i=own.length:=by
   by_cases h:i < own.length
   ·have h1:=hhi i (Nat.le_refl _) h
    have h2:=ho _ (List.getElem_mem h)
    omega
   ·omega
  refine Ev.succ ?_
  simp only [contained1.f]
  refine Ev.pos e ?_
  rw [show tt++List.replicate 0 (0:Int)=tt by simp]
  refine Ev.bind (isMap_ev T (L:=tt) (by omega)) (Ev.const ?_)
  unfold srch
  by_cases m:mayB ph pa qh qa tt
  ·rw [if_pos m,tell_yes m];rfl
  ·rw [if_neg m,tell_no m];rfl
 | n + 1,tt,i,hn,hi,hlo,hhi=>by
  have pw:=List.pairwise_iff_getElem.1 hp
  have eL:∀ x:Int,tt++x :: List.replicate n 0=(tt++[x])++List.replicate n 0:=fun x=>by simp
  by_cases c:(tt.length:Int)∈own
  ·obtain ⟨j,hj,ej⟩:=List.getElem_of_mem c
   have hij:i≤j:=by
    by_cases h:j < i
    ·have:=hlo j h hj;omega
    ·omega
   have hi2:i < own.length:=by omega
   have ei:own[i]=(tt.length:Int):=by
    have h1:=hhi i (Nat.le_refl _) hi2
    rcases Nat.eq_or_lt_of_le hij with rfl | h
    ·exact ej
    ·have:=pw i j hi2 hj h;omega
   have all:∀ (D':List Int) (y:Int),Ev (fun k=>tryAll (fun M=>contained1.f k own D ph pa qh qa M (i + 1)) tt.length D' (tt++y :: List.replicate n 0)) (outF (tt++List.replicate (n + 1) 0) (D'.findSome? fun x=>srch ph pa qh qa own D n (tt++[x]))):=by
    intro D'
    induction D' with
    | nil =>
     intro y
     simp only [tryAll]
     exact Ev.const (by rw [set_mid];rfl)
    | cons x xs ih =>
     intro y
     simp only [tryAll]
     rw [set_mid,eL x,List.findSome?_cons]
     refine Ev.bind (find_ev T hp ho n (tt++[x]) (i + 1) (by simp;omega) (by omega) (fun q hq hql=>?_) (fun q hq hql=>?_)) ?_
     ·rw [List.length_append,List.length_singleton]
      rcases Nat.lt_or_ge q i with h | h
      ·have:=hlo q h hql;omega
      ·obtain rfl:q=i:=by omega
       omega
     ·rw [List.length_append,List.length_singleton]
      have:=pw i q hi2 hql (by omega);omega
     ·cases hh:srch ph pa qh qa own D n (tt++[x]) with
      | some M=>exact Ev.pos rfl (Ev.const rfl)
      | none =>
       refine Ev.neg (by simp [outF]) ?_
       rw [show (outF (tt++[x]++List.replicate n 0) none).2=tt++x :: List.replicate n 0 from (eL x).symm]
       exact ih x
   refine Ev.succ ?_
   simp only [contained1.f]
   rw [rd_nat hi2,ei]
   refine Ev.neg (by omega) (Ev.pos ⟨hi2,by omega,by omega⟩ ?_)
   unfold srch
   rw [if_pos c]
   exact all D 0
  ·unfold srch
   rw [if_neg c,List.replicate_succ,eL 0]
   refine find_ev T hp ho n (tt++[0]) i (by simp;omega) hi (fun q hq hql=>?_) (fun q hq hql=>?_)
   ·rw [List.length_append,List.length_singleton]
    have:=hlo q hq hql;omega
   ·rw [List.length_append,List.length_singleton]
    have h1:=hhi q hq hql
    have h2:own[q] ≠ (tt.length:Int):=fun e=>c (e ▸ List.getElem_mem hql)
    omega
theorem implContained_ev {ph:List Int} {pa:List S97} {qh:List Int} {qa:List S97} (T:twoOk ph pa qh qa) (hs:isSet (varsFrom 0 qa)):Ev (fun k=>impl_contained.f k ph pa qh qa) (outM (srch ph pa qh qa (setL (varsFrom 0 qa)) (setL (varsFrom 0 pa)) 6 [])):=by
 unfold impl_contained.f
 refine Ev.bind (vars_ev qa T.hqa T.hv) (Ev.bind (vars_ev pa T.hpa T.hw) ?_)
 have hf:=find_ev T (own:=setL (varsFrom 0 qa)) (D:=setL (varsFrom 0 pa)) (setL_pw _) (fun v hv=>by have:=setL_mem hv;omega) 6 [] 0 rfl (Nat.zero_le _) (fun j hj=>absurd hj (by omega)) (fun j _ h=>by have:=setL_mem (List.getElem_mem h);simp;omega)
 rw [List.nil_append] at hf
 refine Ev.bind hf ?_
 cases srch ph pa qh qa (setL (varsFrom 0 qa)) (setL (varsFrom 0 pa)) 6 [] with
 | some M=>exact Ev.pos rfl (Ev.const rfl)
 | none=>exact Ev.neg (by simp [outF]) (Ev.const rfl)
theorem specContained_ev {ph:List Int} {pa:List S97} {qh:List Int} {qa:List S97} (T:twoOk ph pa qh qa):Ev (fun k=>spec_l10Contained.f k ph pa qh qa) (outM (srch ph pa qh qa (setL (varsFrom 0 qa)) (setL (varsFrom 0 pa)) 6 [])):=by
 unfold spec_l10Contained.f
 exact Ev.bind (map_ev T 6 [] rfl) (Ev.const rfl)
/-! ### chapter 10: what is told of maps, and how they are put together -/
theorem two_of {ph:List Int} {pa:List S97} {qh:List Int} {qa:List S97} {t:List Int} (gp:queryOk ph pa t) (gq:queryOk qh qa t) (hl:ph.length=qh.length):twoOk ph pa qh qa:=by
 have lp:=gp.len5
 have lq:=gq.len5
 have hh:=gq.head6
 exact ⟨by omega,by omega,by omega,hl,fun v hv=>setL_mem (gq.heads v hv),fun a ha=>⟨by have:=atom_len gq.tab (gq.atoms a ha);omega,(gq.atoms a ha).2.2.2⟩,fun a ha=>⟨by have:=atom_len gp.tab (gp.atoms a ha);omega,(gp.atoms a ha).2.2.2⟩,fun a ha o ho e=>by
  have h1:=(gq.atoms a ha).2.2.1
  have h2:=(gp.atoms o ho).2.2.1
  rw [e] at h2;omega⟩
theorem vars_set {h:List Int} {l:List S97} {t:List Int} (g:queryOk h l t):isSet (varsFrom 0 l):=varsFrom_ok l 0 ⟨by omega,by omega⟩ fun a ha=>(g.atoms a ha).2.2.2
theorem vars_mem : ∀ (l:List S97) (s:Int),isSet s→(∀ a∈l,∀ v∈a.f1,0≤v∧v≤5)→∀ x,x∈setL (varsFrom s l)↔x∈setL s ∨ ∃ a∈l,x∈a.f1
 | [],s,_,_,x=>by
  show x∈setL s↔_
  simp
 | a :: l,s,hs,h,x=>by
  have h1:=orB_foldl a.f1 s hs (h a (List.mem_cons_self ..))
  have h2:=vars_mem l (a.f1.foldl orB s) h1.1 (fun b hb=>h b (List.mem_cons_of_mem _ hb)) x
  show x∈setL (varsFrom (a.f1.foldl orB s) l)↔_
  rw [h2,h1.2,mem_foldl_putL]
  simp only [List.mem_cons,exists_eq_or_imp,or_assoc]
theorem vars_in {h:List Int} {l:List S97} {t:List Int} (g:queryOk h l t) (x:Int):x∈setL (varsFrom 0 l)↔∃ a∈l,x∈a.f1:=by
 rw [vars_mem l 0 ⟨by omega,by omega⟩ (fun a ha=>(g.atoms a ha).2.2.2) x]
 have:setL 0=[]:=(setL_nil ⟨by omega,by omega⟩).1 rfl
 simp [this]
/-- There is a map from the second question to the first. -/
def mapTo (ph:List Int) (pa:List S97) (qh:List Int) (qa:List S97):Prop:=∃ L:List Int,L.length=6∧mayB ph pa qh qa L
theorem rd_mem {l:List Int} {i:Nat} (h:i < l.length):rd l (i:Int)∈l:=by
 have:rd l (i:Int)=l[i]:=by simp [rd,h]
 rw [this]
 exact List.getElem_mem h
theorem rd_range {f:Int→Int} {v:Int} (h0:0≤v) (h5:v≤5):rd ((List.range 6).map fun k:Nat=>f (k:Int)) v=f v:=by
 obtain ⟨n,rfl⟩:∃ n:Nat,v=(n:Int):=⟨v.toNat,by omega⟩
 have hn:n < 6:=by omega
 simp [rd,hn]
theorem mapTo_trans {ph:List Int} {pa:List S97} {qh:List Int} {qa:List S97} {rh:List Int} {ra:List S97} {t:List Int} (gp:queryOk ph pa t) (gq:queryOk qh qa t) (gr:queryOk rh ra t) (h1:ph.length=qh.length) (h2:qh.length=rh.length)
  (a:mapTo ph pa qh qa) (b:mapTo qh qa rh ra):mapTo ph pa rh ra:=by
 obtain ⟨L1,l1,m1⟩:=a
 obtain ⟨L2,l2,m2⟩:=b
 have T1:=two_of gp gq h1
 have T2:=two_of gq gr h2
 refine ⟨(List.range 6).map fun k:Nat=>rd L1 (rd L2 (k:Int)),by simp,fun i hi _=>?_,fun c hc=>?_⟩
 ·have hv:=T2.hq _ (List.getElem_mem hi)
  rw [rd_range (f:=fun x=>rd L1 (rd L2 x)) hv.1 hv.2]
  have e2:=m2.1 i hi (by rw [l2];omega)
  have hi2:i < qh.length:=by omega
  have e3:rd qh (i:Int)=qh[i]:=by simp [rd,hi2]
  rw [e2,e3]
  have hq:=T1.hq _ (List.getElem_mem hi2)
  exact m1.1 i hi2 (by rw [l1];omega)
 ·obtain ⟨o,ho,e0,f0⟩:=m2.2 c hc
  obtain ⟨o',ho',e0',f0'⟩:=m1.2 o ho
  refine ⟨o',ho',by rw [e0',e0],fun i hi _=>?_⟩
  have hv:=(T2.hv c hc).2 _ (List.getElem_mem hi)
  rw [rd_range (f:=fun x=>rd L1 (rd L2 x)) hv.1 hv.2]
  have e2:=f0 i hi (by rw [l2];omega)
  have hl:=T2.hs c hc o ho e0
  have hi2:i < o.f1.length:=by omega
  have e3:rd o.f1 (i:Int)=o.f1[i]:=by simp [rd,hi2]
  rw [e2,e3]
  have hq:=(T1.hv o ho).2 _ (List.getElem_mem hi2)
  exact f0' i hi2 (by rw [l1];omega)
theorem srch_finds {ph:List Int} {pa:List S97} {qh:List Int} {qa:List S97} {own D:List Int} {L:List Int} (hm:mayB ph pa qh qa L) (hown:∀ v,(h:v < L.length)→((v:Nat):Int)∈own→L[v]∈D) (hno:∀ v,(h:v < L.length)→¬ ((v:Nat):Int)∈own→L[v]=0) :
  ∀ (n:Nat) (tt:List Int),n + tt.length=L.length→tt=L.take tt.length→(srch ph pa qh qa own D n tt).isSome=true
 | 0,tt,hl,ht=>by
  have:tt=L:=by rw [ht,List.take_of_length_le (by omega)]
  subst this
  unfold srch
  rw [if_pos hm]
  rfl
 | n + 1,tt,hl,ht=>by
  have hlt:tt.length < L.length:=by omega
  have hs:tt++[L[tt.length]]=L.take (tt++[L[tt.length]]).length:=by
   rw [List.length_append,List.length_singleton,List.take_add_one,← ht,List.getElem?_eq_getElem hlt]
   rfl
  have ih:=srch_finds hm hown hno n (tt++[L[tt.length]]) (by simp;omega) hs
  unfold srch
  by_cases ho:(tt.length:Int)∈own
  ·rw [if_pos ho]
   rw [List.findSome?_isSome_iff]
   exact ⟨L[tt.length],hown _ hlt ho,ih⟩
  ·rw [if_neg ho]
   rw [hno _ hlt ho] at ih
   exact ih
theorem outM_snd (o:Option (List Int)):(outM o).2=o.isSome:=by cases o <;> rfl
theorem contained_tell {ph:List Int} {pa:List S97} {qh:List Int} {qa:List S97} {t:List Int} (gp:queryOk ph pa t) (gq:queryOk qh qa t) (hl:ph.length=qh.length) :
  (outM (srch ph pa qh qa (setL (varsFrom 0 qa)) (setL (varsFrom 0 pa)) 6 [])).2=tell (mapTo ph pa qh qa):=by
 rw [outM_snd,Bool.eq_iff_iff,tell_iff]
 have T:=two_of gp gq hl
 constructor
 ·intro h
  obtain ⟨M,hM⟩:=Option.isSome_iff_exists.1 h
  obtain ⟨r,hr,h6,hm⟩:=srch_may 6 [] M hM
  exact ⟨M,by rw [hr];simpa using h6,hm⟩
 ·rintro ⟨L,h6,hm⟩
  classical
  let f:Int→Int:=fun v=>if v∈setL (varsFrom 0 qa) then rd L v else 0
  have hf:∀ v,v∈setL (varsFrom 0 qa)→f v=rd L v:=fun v hv=>if_pos hv
  have hL':((List.range 6).map fun k:Nat=>f (k:Int)).length=6:=by simp
  refine srch_finds (L:=(List.range 6).map fun k:Nat=>f (k:Int)) ⟨fun i hi hb=>?_,fun a ha=>?_⟩ ?_ ?_ 6 [] (by simp) (by simp)
  ·have hv:=T.hq _ (List.getElem_mem hi)
   rw [rd_range hv.1 hv.2,hf _ (gq.heads _ (List.getElem_mem hi))]
   exact hm.1 i hi (by rw [h6];omega)
  ·obtain ⟨o,ho,e0,f0⟩:=hm.2 a ha
   refine ⟨o,ho,e0,fun i hi hb=>?_⟩
   have hv:=(T.hv a ha).2 _ (List.getElem_mem hi)
   rw [rd_range hv.1 hv.2,hf _ ((vars_in gq _).2 ⟨a,ha,List.getElem_mem hi⟩)]
   exact f0 i hi (by rw [h6];omega)
  ·intro v hv ho
   have hv6:v < 6:=by simpa using hv
   refine (show f (v:Int)∈setL (varsFrom 0 pa)→_ from fun h=>by simpa [hv6] using h) ?_
   rw [hf _ ho]
   obtain ⟨a,ha,hva⟩:=(vars_in gq _).1 ho
   obtain ⟨o,ho',e0,f0⟩:=hm.2 a ha
   obtain ⟨i,hi,ei⟩:=List.mem_iff_getElem.1 hva
   have:=f0 i hi (by rw [h6,ei];omega)
   rw [ei] at this
   rw [this,vars_in gp]
   exact ⟨o,ho',rd_mem (by have:=T.hs a ha o ho' e0;omega)⟩
  ·intro v hv ho
   have hv6:v < 6:=by simpa using hv
   have e:f (v:Int)=0:=if_neg ho
   simpa [hv6] using e
def sameTo (ph:List Int) (pa:List S97) (qh:List Int) (qa:List S97):Prop:=mapTo ph pa qh qa∧mapTo qh qa ph pa
theorem sameSpec_ev {ph:List Int} {pa:List S97} {qh:List Int} {qa:List S97} {t:List Int} (gp:queryOk ph pa t) (gq:queryOk qh qa t) (hl:ph.length=qh.length):Ev (fun k=>spec_l10Same.f k ph pa qh qa) (tell (sameTo ph pa qh qa)):=by
 unfold spec_l10Same.f
 refine Ev.bind (specContained_ev (two_of gp gq hl)) (Ev.bind (specContained_ev (two_of gq gp hl.symm)) ?_)
 have h1:=contained_tell gp gq hl
 have h2:=contained_tell gq gp hl.symm
 rw [h1,h2]
 by_cases c1:mapTo ph pa qh qa
 ·refine Ev.pos (tell_yes c1) (Ev.const ?_)
  congr 1
  rw [Bool.eq_iff_iff,tell_iff,tell_iff]
  exact ⟨fun h=>⟨c1,h⟩,fun h=>h.2⟩
 ·exact Ev.neg (by rw [tell_no c1];simp) (Ev.const (by rw [tell_no fun h=>c1 h.1]))
theorem sameImpl_ev {ph:List Int} {pa:List S97} {qh:List Int} {qa:List S97} {t:List Int} (gp:queryOk ph pa t) (gq:queryOk qh qa t) (hl:ph.length=qh.length):Ev (fun k=>impl_isSame.f k ph pa qh qa) (tell (sameTo ph pa qh qa)):=by
 unfold impl_isSame.f
 refine Ev.bind (implContained_ev (two_of gp gq hl) (vars_set gq)) (Ev.bind (implContained_ev (two_of gq gp hl.symm) (vars_set gp)) ?_)
 have h1:=contained_tell gp gq hl
 have h2:=contained_tell gq gp hl.symm
 rw [h1,h2]
 by_cases c1:mapTo ph pa qh qa
 ·refine Ev.pos (tell_yes c1) (Ev.const ?_)
  congr 1
  rw [Bool.eq_iff_iff,tell_iff,tell_iff]
  exact ⟨fun h=>⟨c1,h⟩,fun h=>h.2⟩
 ·exact Ev.neg (by rw [tell_no c1];simp) (Ev.const (by rw [tell_no fun h=>c1 h.1]))
theorem sameTo_same {ph:List Int} {pa oa qa:List S97} {oh qh:List Int} {t:List Int} (gp:queryOk ph pa t) (go:queryOk oh oa t) (gq:queryOk qh qa t) (h1:ph.length=oh.length) (h2:oh.length=qh.length) (s:sameTo oh oa qh qa):sameTo ph pa oh oa↔sameTo ph pa qh qa :=
 ⟨fun h=>⟨mapTo_trans gp go gq h1 h2 h.1 s.1,mapTo_trans gq go gp h2.symm h1.symm s.2 h.2⟩,fun h=>⟨mapTo_trans gp gq go (h1.trans h2) h2.symm h.1 s.2,mapTo_trans go gq gp h2 (h1.trans h2).symm s.1 h.2⟩⟩
theorem mapTo_self {ph:List Int} {pa:List S97} {t:List Int} (gp:queryOk ph pa t):mapTo ph pa ph pa:=by
 have T:=two_of gp gp rfl
 refine ⟨(List.range 6).map fun k:Nat=>(fun x=>x) (k:Int),by simp,fun i hi _=>?_,fun a ha=>⟨a,ha,rfl,fun i hi _=>?_⟩⟩
 ·have hv:=T.hq _ (List.getElem_mem hi)
  rw [rd_range (f:=fun x=>x) hv.1 hv.2]
  simp [rd,hi]
 ·have hv:=(T.hv a ha).2 _ (List.getElem_mem hi)
  rw [rd_range (f:=fun x=>x) hv.1 hv.2]
  simp [rd,hi]
theorem implQ_ev (h:List Int) (l:List S97) (t:List Int) (ht:tabOk t) (hl:l.length≤1048576):Ev (fun k=>impl_isQuery.f k h l t) (tell (queryOk h l t)):=by
 have h4:=ht.2.2
 unfold impl_isQuery.f
 rw [within_some]
 refine Ev.some_bind ?_
 by_cases g2:(1:Int)≤l.length∧(l.length:Int)≤5
 case neg=>exact Ev.neg (by simpa using g2) (Ev.const (by rw [tell_no fun q=>g2 ⟨by have:=q.len1;omega,by have:=q.len5;omega⟩]))
 refine Ev.pos (by simpa using g2) ?_
 have e:areAll_impl_isQuery_1.f l t=some (l.all fun a=>tell (atomOk t a)):=by
  unfold areAll_impl_isQuery_1.f
  exact all_some fun d _=>isQuery1_some t (by omega) d
 rw [e]
 refine Ev.some_bind ?_
 by_cases g3:∀ a∈l,atomOk t a
 case neg=>exact Ev.neg (by rw [List.all_eq_true];intro q;exact g3 fun a ha=>tell_iff.1 (q a ha)) (Ev.const (by rw [tell_no fun q=>g3 q.atoms]))
 refine Ev.pos (List.all_eq_true.2 fun a ha=>tell_yes (g3 a ha)) (Ev.bind (isHead_ev h l (by omega) fun a ha=>⟨by have:=atom_len ht (g3 a ha);omega,(g3 a ha).2.2.2⟩) (Ev.const ?_))
 congr 1
 rw [Bool.eq_iff_iff,Bool.and_eq_true,decide_eq_true_iff,List.all_eq_true,tell_iff]
 exact ⟨fun q=>⟨ht,by omega,by omega,q.1,g3,fun v hv=>by simpa using q.2 v hv⟩,fun q=>⟨q.head6,fun v hv=>by simpa using q.heads v hv⟩⟩
theorem cloneInt_some {l:List Int} (h:l.length≤1000):clone_Int.f l=some l:=by
 unfold clone_Int.f
 exact if_pos (by omega)
theorem ownI_ev (h:List Int) (l:List S97) (hh:h.length≤1000) (hl:l.length≤1000) (hx:∀ a∈l,a.f1.length≤1000):Ev (fun k=>impl_Query_own.f k h l) (h,l):=by
 unfold impl_Query_own.f
 rw [cloneInt_some hh]
 refine Ev.some_bind ?_
 have key:=loop_up (n:=l.length) (P:=fun i=>Ev (fun k=>impl_Query_own.l0 k l (l.length:Int) (i:Int) h (l.take i)) (h,l)) ?_ ?_
 ·exact key 0 (Nat.zero_le _)
 ·refine Ev.succ ?_
  simp only [impl_Query_own.l0]
  exact Ev.neg (by omega) (Ev.const (by rw [List.take_length]))
 ·intro i hi ih
  refine Ev.succ ?_
  simp only [impl_Query_own.l0,rdA hi]
  refine Ev.pos (by omega) (Ev.pos (by omega) (Ev.pos (by omega) ?_))
  rw [cloneInt_some (hx _ (List.getElem_mem hi))]
  refine Ev.some_bind (Ev.pos (by rw [List.length_take];omega) ?_)
  rw [wrap_add (by omega) (by omega)]
  have e:l.take i++[(⟨l[i].f0,l[i].f1⟩:S97)]=l.take (i + 1):=by rw [List.take_add_one,List.getElem?_eq_getElem hi];rfl
  rw [e]
  exact ih
theorem ownS_ev (h:List Int) (l:List S97) (hh:h.length≤1000) (hl:l.length≤1000) (hx:∀ a∈l,a.f1.length≤1000):Ev (fun k=>spec_l10Own.f k h l) (h,l):=by
 unfold spec_l10Own.f
 refine Ev.some_bind (Ev.pos (by simp;omega) ?_)
 rw [List.nil_append]
 have key:=loop_up (n:=l.length) (P:=fun i=>Ev (fun k=>spec_l10Own.l0 k l (l.length:Int) (i:Int) h (l.take i)) (h,l)) ?_ ?_
 ·exact key 0 (Nat.zero_le _)
 ·refine Ev.succ ?_
  simp only [spec_l10Own.l0]
  exact Ev.neg (by omega) (Ev.const (by rw [List.take_length]))
 ·intro i hi ih
  have hxi:=hx _ (List.getElem_mem hi)
  refine Ev.succ ?_
  simp only [spec_l10Own.l0,rdA hi]
  refine Ev.pos (by omega) (Ev.pos (by omega) (Ev.pos (by omega) (Ev.some_bind (Ev.pos (by simp;omega) (Ev.pos (by rw [List.length_take];omega) ?_)))))
  rw [wrap_add (by omega) (by omega),List.nil_append]
  have e:l.take i++[(⟨l[i].f0,l[i].f1⟩:S97)]=l.take (i + 1):=by rw [List.take_add_one,List.getElem?_eq_getElem hi];rfl
  rw [e]
  exact ih
theorem core_ev {qh:List Int} {qa:List S97} {t:List Int} (gq:queryOk qh qa t):∀ (n:Nat) (oa:List S97) (i:Nat),oa.length - i=n→i≤oa.length→queryOk qh oa t→sameTo qh oa qh qa →
  ∃ ra:List S97,queryOk qh ra t∧Ev (fun k=>spec_CoreOf.l0 k t (i:Int) qh oa) (qh,ra,true)∧Ev (fun k=>impl_CoreOf.l0 k t (i:Int) qh qa qh oa) (qh,ra,true)
 | 0,oa,i,hn,hi,go,hs=>by
  have h5:=go.len5
  have h6:=go.head6
  refine ⟨oa,go,Ev.succ ?_,Ev.succ ?_⟩
  ·simp only [spec_CoreOf.l0]
   exact Ev.neg (by omega) (Ev.const rfl)
  ·simp only [impl_CoreOf.l0]
   exact Ev.neg (by omega) (Ev.bind (ownI_ev qh oa (by omega) (by omega) (fun a ha=>by have:=atom_len go.tab (go.atoms a ha);omega)) (Ev.const rfl))
 | n + 1,oa,i,hn,hi,go,hs=>by
  have h5:=go.len5
  have h6:=go.head6
  have hx:∀ a∈oa,a.f1.length≤1000:=fun a ha=>by have:=atom_len go.tab (go.atoms a ha);omega
  have hlt:i < oa.length:=by omega
  have hel:(oa.eraseIdx i).length=oa.length - 1:=List.length_eraseIdx_of_lt hlt
  have hw:wrap64 ((i:Int) + 1)=((i + 1:Nat):Int):=by rw [wrap_add (by omega) (by omega)];omega
  have hxe:∀ a∈oa.eraseIdx i,a.f1.length≤1000:=fun a ha=>hx a (List.mem_of_mem_eraseIdx ha)
  have ht:=go.tab.2.2
  have hc:clone_Atom.f oa=some oa:=by unfold clone_Atom.f;exact if_pos ⟨by omega,by omega⟩
  have hd:del_Atom.f oa (i:Int) (wrap64 ((i:Int) + 1))=some (oa.eraseIdx i):=by
   unfold del_Atom.f
   rw [hw,if_pos ⟨by omega,by omega,by omega⟩]
   simp
  have s1:=ownS_ev qh oa (by omega) (by omega) hx
  have s2:=specGoodQ_ev qh (oa.eraseIdx i) t (by omega) (by omega) (by omega) (fun a ha=>by have:=hxe a ha;omega)
  have i2:=implQ_ev qh (oa.eraseIdx i) t go.tab (by omega)
  obtain ⟨rn,gn,en,fn⟩:=core_ev gq n oa (i + 1) (by omega) (by omega) go hs
  by_cases g1:queryOk qh (oa.eraseIdx i) t
  case neg =>
   refine ⟨rn,gn,Ev.succ ?_,Ev.succ ?_⟩
   ·simp only [spec_CoreOf.l0]
    refine Ev.pos (by omega) (Ev.bind s1 (Ev.pos (by omega) (Ev.pos (by show (i:Int)≤(oa.length:Int);omega) (Ev.pos (by rw [hw];omega) (Ev.pos (by rw [hw];show ((i + 1:Nat):Int)≤(oa.length:Int);omega) (Ev.some_bind (Ev.bind s2 (Ev.neg (by rw [tell_no g1];simp) ?_))))))))
    rw [hw]
    exact en
   ·simp only [impl_CoreOf.l0]
    refine Ev.pos (by omega) ?_
    rw [hc]
    refine Ev.some_bind ?_
    rw [hd]
    refine Ev.some_bind (Ev.bind i2 (Ev.neg (by rw [tell_no g1];simp) ?_))
    rw [hw]
    exact fn
  have s3:=sameSpec_ev g1 go rfl
  have i3:=sameImpl_ev g1 gq rfl
  have hiff:=sameTo_same g1 go gq rfl rfl hs
  by_cases g2:sameTo qh (oa.eraseIdx i) qh oa
  case neg =>
   have g3:¬ sameTo qh (oa.eraseIdx i) qh qa:=fun h=>g2 (hiff.2 h)
   refine ⟨rn,gn,Ev.succ ?_,Ev.succ ?_⟩
   ·simp only [spec_CoreOf.l0]
    refine Ev.pos (by omega) (Ev.bind s1 (Ev.pos (by omega) (Ev.pos (by show (i:Int)≤(oa.length:Int);omega) (Ev.pos (by rw [hw];omega) (Ev.pos (by rw [hw];show ((i + 1:Nat):Int)≤(oa.length:Int);omega) (Ev.some_bind (Ev.bind s2 (Ev.pos (tell_yes g1) (Ev.bind s3 (Ev.neg (by rw [tell_no g2];simp) ?_))))))))))
    rw [hw]
    exact en
   ·simp only [impl_CoreOf.l0]
    refine Ev.pos (by omega) ?_
    rw [hc]
    refine Ev.some_bind ?_
    rw [hd]
    refine Ev.some_bind (Ev.bind i2 (Ev.pos (tell_yes g1) (Ev.bind i3 (Ev.neg (by rw [tell_no g3];simp) ?_))))
    rw [hw]
    exact fn
  have g3:=hiff.1 g2
  obtain ⟨re,ge,ee,fe⟩:=core_ev gq n (oa.eraseIdx i) i (by omega) (by omega) g1 g3
  refine ⟨re,ge,Ev.succ ?_,Ev.succ ?_⟩
  ·simp only [spec_CoreOf.l0]
   exact Ev.pos (by omega) (Ev.bind s1 (Ev.pos (by omega) (Ev.pos (by show (i:Int)≤(oa.length:Int);omega) (Ev.pos (by rw [hw];omega) (Ev.pos (by rw [hw];show ((i + 1:Nat):Int)≤(oa.length:Int);omega) (Ev.some_bind (Ev.bind s2 (Ev.pos (tell_yes g1) (Ev.bind s3 (Ev.pos (tell_yes g2) ee))))))))))
  ·simp only [impl_CoreOf.l0]
   refine Ev.pos (by omega) ?_
   rw [hc]
   refine Ev.some_bind ?_
   rw [hd]
   exact Ev.some_bind (Ev.bind i2 (Ev.pos (tell_yes g1) (Ev.bind i3 (Ev.pos (tell_yes g3) fe))))
theorem FnExactCoreOf : laws_FnExactCoreOf.Pure:=by
 intro qh qa0 t w0 w1 w4 ht hz1
 obtain ⟨q0,q1,q2,_⟩:=okQuery_cv hz1
 obtain ⟨qa,rfl⟩:∃ qa,qa=cvAtomS qa0:=⟨_,rfl⟩
 have s1:=specGoodQ_ev qh (cvAtomS qa0) t q0 ht q1 q2
 have i1:=implGoodQ_ev qh (cvAtomS qa0) t ht q1
 generalize cvAtomS qa0=qa at *
 have fin:∀ r:List Int × List S97 × Bool,Ev (fun k=>spec_CoreOf.f k qh qa t) r→Ev (fun k=>impl_CoreOf.f k qh qa t) r→okQuery r.1 r.2.1→∃ (k:Nat) (r:List Int × List S97 × Bool),spec_CoreOf.f k qh qa t=some r∧impl_CoreOf.f k qh qa t=some r∧okQuery r.1 r.2.1:=fun r h1 h2 h3=>by
  obtain ⟨K1,k1⟩:=h1
  obtain ⟨K2,k2⟩:=h2
  exact ⟨K1 + K2,r,k1 _ (by omega),k2 _ (by omega),h3⟩
 by_cases gq:queryOk qh qa t
 case neg =>
  refine fin ([],[],false) ?_ ?_ ⟨by simp,by simp,by simp,by simp⟩
  ·unfold spec_CoreOf.f
   exact Ev.bind s1 (Ev.neg (by rw [tell_no gq];simp) (Ev.const rfl))
  ·unfold impl_CoreOf.f
   exact Ev.bind i1 (Ev.neg (by rw [tell_no gq];simp) (Ev.const rfl))
 have h5:=gq.len5
 have h6:=gq.head6
 have hx:∀ a∈qa,a.f1.length≤1000:=fun a ha=>by have:=atom_len gq.tab (gq.atoms a ha);omega
 obtain ⟨ra,gr,e,f⟩:=core_ev gq qa.length qa 0 (by omega) (by omega) gq ⟨mapTo_self gq,mapTo_self gq⟩
 refine fin (qh,ra,true) ?_ ?_ ?_
 ·unfold spec_CoreOf.f
  exact Ev.bind s1 (Ev.pos (tell_yes gq) (Ev.bind (ownS_ev qh qa (by omega) (by omega) hx) e))
 ·unfold impl_CoreOf.f
  exact Ev.bind i1 (Ev.pos (tell_yes gq) (Ev.bind (ownI_ev qh qa (by omega) (by omega) hx) f))
 ·have hr5:=gr.len5
  have hr6:=gr.head6
  have h3:∀ x∈ra,x.f1.length≤3:=fun x hx=>atom_len gr.tab (gr.atoms x hx)
  have key:∀ l:List S97,(∀ x∈l,x.f1.length≤3)→(l.map fun x=>x.f1.length).sum≤l.length * 3:=fun l=>by
   induction l with
   | nil=>simp
   | cons a l ih =>
    intro h
    have h1:=h a (List.mem_cons_self ..)
    have h2:=ih (fun x hx=>h x (List.mem_cons_of_mem _ hx))
    simp only [List.map_cons,List.sum_cons,List.length_cons]
    omega
  have hs:=key ra h3
  exact ⟨by show qh.length≤_;omega,by show ra.length≤_;omega,fun x hx=>by have:=h3 x hx;omega,by show ra.length + (ra.map fun x=>x.f1.length).sum≤_;omega⟩
end Go.Proofs.Ytboligpcbndkjaa.Pure
