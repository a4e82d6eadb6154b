/- What KeysOf's law comes to, in numbers and lists alone: the program tells what the reference tells, whatever is asked. -/
import Derived.Test.YtchbcdafomhlaaaPFnExactKeysOfx5
import Derived.Test.YtchbcdafomhlaaaEv
namespace Go.Proofs.Ytchbcdafomhlaaa.Pure
open Go.RowKit Go.Proofs.Ytchbcdafomhlaaa.PFnExactKeysOf Go.Proofs.YtchbcdafomhlaaaW.PrintWords Go.Proofs.YtchbcdafomhlaaaW.PrintLast Go.Proofs.YtchbcdafomhlaaaW.PrintMore
set_option linter.unusedVariables false
set_option linter.unusedSimpArgs false

/-- The numbers of a set, rising. -/
def setL (s:Int):List Int:=((List.range 6).filter (fun k=>s.toNat.testBit k)).map (fun (k:Nat)=>(k:Int))
theorem setL_mem {s x:Int} (h:x∈setL s):0≤x∧x≤5:=by
 simp only [setL,List.mem_map,List.mem_filter,List.mem_range] at h
 obtain ⟨k,⟨hk,_⟩,rfl⟩:=h
 omega
theorem setL_some (s:Int) (h0:0≤s) (h1:s < 64):impl_set_list.f 8 s=some (setL s):=by
 have key:∀ n:Fin 64,impl_set_list.f 8 (n.val:Int)=some (setL (n.val:Int)):=by decide +kernel
 have:=key ⟨s.toNat,by omega⟩
 simpa [Int.toNat_of_nonneg h0] using this
theorem setL_ev (s:Int) (h0:0≤s) (h1:s < 64):Ev (fun k=>impl_set_list.f k s) (setL s):=Ev.of (fun k=>impl_set_list.mono s k) (setL_some s h0 h1)
/-- A number put to its place, once. -/
def putL (l:List Int) (n:Int):List Int:=if l.contains n then l else l.take (l.takeWhile (fun x=>decide (x < n))).length++n :: l.drop (l.takeWhile (fun x=>decide (x < n))).length
def orB (s n:Int):Int:=Go.bits .or .i64 s (shl .i64 1 n)
def isSet (s:Int):Prop:=0≤s∧s < 64
theorem fin_set {s:Int} (h:isSet s):∃ m:Fin 64,s=(m.val:Int):=⟨⟨s.toNat,by have:=h.1;have:=h.2;omega⟩,by have:=h.1;simp;omega⟩
theorem fin_num {n:Int} (h0:0≤n) (h5:n≤5):∃ m:Fin 6,n=(m.val:Int):=⟨⟨n.toNat,by omega⟩,by simp;omega⟩
theorem orB_ok {s n:Int} (h:isSet s) (h0:0≤n) (h5:n≤5):isSet (orB s n)∧setL (orB s n)=putL (setL s) n:=by
 obtain ⟨a,rfl⟩:=fin_set h
 obtain ⟨b,rfl⟩:=fin_num h0 h5
 have key:∀ a:Fin 64,∀ b:Fin 6,(0≤orB (a.val:Int) (b.val:Int)∧orB (a.val:Int) (b.val:Int) < 64)∧setL (orB (a.val:Int) (b.val:Int))=putL (setL (a.val:Int)) (b.val:Int):=by decide +kernel
 exact key a b
theorem setL_nil {s:Int} (h:isSet s):s=0↔setL s=[]:=by
 obtain ⟨a,rfl⟩:=fin_set h
 have key:∀ a:Fin 64,(a.val:Int)=0↔setL (a.val:Int)=[]:=by decide +kernel
 exact key a
theorem setL_len (s:Int):(setL s).length≤6:=by
 unfold setL
 rw [List.length_map]
 exact Nat.le_trans (List.length_filter_le _ _) (by simp)
theorem putL_len (l:List Int) (n:Int):(putL l n).length≤l.length + 1:=by
 unfold putL
 split
 ·omega
 ·simp;omega

def hasB (a b:Int):Bool:=Go.bits .and .i64 a b == b
def orS (a b:Int):Int:=Go.bits .or .i64 a b
theorem mem_setL {m:Fin 64} {x:Int}:x∈setL (m.val:Int)↔∃ k:Fin 6,x=(k.val:Int)∧m.val.testBit k.val=true:=by
 simp only [setL,List.mem_map,List.mem_filter,List.mem_range,Int.toNat_natCast]
 constructor
 ·rintro ⟨k,⟨hk,hb⟩,rfl⟩;exact ⟨⟨k,hk⟩,rfl,hb⟩
 ·rintro ⟨k,rfl,hb⟩;exact ⟨k.val,⟨k.isLt,hb⟩,rfl⟩
theorem orS_set {a b:Int} (ha:isSet a) (hb:isSet b):isSet (orS a b):=by
 obtain ⟨a,rfl⟩:=fin_set ha
 obtain ⟨b,rfl⟩:=fin_set hb
 have key:∀ a b:Fin 64,0≤orS (a.val:Int) (b.val:Int)∧orS (a.val:Int) (b.val:Int) < 64:=by decide +kernel
 exact key a b
theorem hasB_iff {a b:Int} (ha:isSet a) (hb:isSet b):hasB a b=(setL b).all (fun x=>(setL a).contains x):=by
 obtain ⟨a,rfl⟩:=fin_set ha
 obtain ⟨b,rfl⟩:=fin_set hb
 have key:∀ a b:Fin 64,hasB (a.val:Int) (b.val:Int)=(setL (b.val:Int)).all (fun x=>(setL (a.val:Int)).contains x):=by decide +kernel
 exact key a b
theorem orS_fold {a b:Int} (ha:isSet a) (hb:isSet b):setL (orS a b)=(setL b).foldl putL (setL a):=by
 obtain ⟨a,rfl⟩:=fin_set ha
 obtain ⟨b,rfl⟩:=fin_set hb
 have key:∀ a b:Fin 64,setL (orS (a.val:Int) (b.val:Int))=(setL (b.val:Int)).foldl putL (setL (a.val:Int)):=by decide +kernel
 exact key a b
theorem orS_len {a b:Int} (ha:isSet a) (hb:isSet b):(setL a).length≤(setL (orS a b)).length∧((setL a).length=(setL (orS a b)).length↔orS a b=a):=by
 obtain ⟨a,rfl⟩:=fin_set ha
 obtain ⟨b,rfl⟩:=fin_set hb
 have key:∀ a b:Fin 64,(setL (a.val:Int)).length≤(setL (orS (a.val:Int) (b.val:Int))).length∧((setL (a.val:Int)).length=(setL (orS (a.val:Int) (b.val:Int))).length↔orS (a.val:Int) (b.val:Int)=(a.val:Int)):=by decide +kernel
 exact key a b
theorem setL_inj {a b:Int} (ha:isSet a) (hb:isSet b) (h:setL a=setL b):a=b:=by
 obtain ⟨a,rfl⟩:=fin_set ha
 obtain ⟨b,rfl⟩:=fin_set hb
 have key:∀ a b:Fin 64,setL (a.val:Int)=setL (b.val:Int)→(a.val:Int)=(b.val:Int):=by decide +kernel
 exact key a b h
/-- The set of a list. -/
def setI (l:List Int):Int:=l.foldl orB 0
theorem orB_foldl : ∀ (l:List Int) (s:Int),isSet s→(∀ x∈l,0≤x∧x≤5)→isSet (l.foldl orB s)∧setL (l.foldl orB s)=l.foldl putL (setL s)
 | [],s,hs,_=>⟨hs,rfl⟩
 | n :: l,s,hs,h=>by
  obtain ⟨h0,h5⟩:=h n List.mem_cons_self
  obtain ⟨k1,k2⟩:=orB_ok hs h0 h5
  obtain ⟨j1,j2⟩:=orB_foldl l (orB s n) k1 (fun x hx=>h x (List.mem_cons_of_mem _ hx))
  exact ⟨j1,by rw [List.foldl_cons,j2,k2];rfl⟩
/-- Rising numbers of so many. -/
def ris (l:List Int) (c:Int):Prop:=∀ i,(hi:i < l.length)→0≤l[i]∧l[i] < c∧(0 < i→l[i - 1]'(by omega) < l[i])
theorem ris_tail {a:Int} {l:List Int} {c:Int} (h:ris (a :: l) c):ris l c:=by
 intro i hi
 have:=h (i + 1) (by simp;omega)
 simp only [List.getElem_cons_succ,Nat.add_sub_cancel] at this
 refine ⟨this.1,this.2.1,fun hp=>?_⟩
 have h3:=this.2.2 (by omega)
 obtain ⟨j,rfl⟩:∃ j,i=j + 1:=⟨i - 1,by omega⟩
 simpa using h3
theorem ris_mem {l:List Int} {c:Int} (h:ris l c):∀ x∈l,0≤x∧x < c:=by
 intro x hx
 obtain ⟨i,hi,rfl⟩:=List.getElem_of_mem hx
 exact ⟨(h i hi).1,(h i hi).2.1⟩
theorem ris_lt : ∀ {l:List Int} {a c:Int},ris (a :: l) c→∀ x∈l,a < x
 | [],_,_,_=>fun x hx=>by cases hx
 | b :: l,a,c,h=>by
  have hab:a < b:=by have:=(h 1 (by simp)).2.2 (by omega);simpa using this
  intro x hx
  rcases List.mem_cons.1 hx with rfl | hx
  ·exact hab
  ·exact Int.lt_trans hab (ris_lt (ris_tail h) x hx)
theorem ris_zero {c:Int} (h:c≤0) {l:List Int} (hl:ris l c):l=[]:=by
 cases l with
 | nil=>rfl
 | cons a l=>have:=hl 0 (by simp);simp at this;omega
/-- Numbers put to their places behind those that are less: at the end. -/
theorem putL_end (p:List Int) (n:Int) (h:∀ x∈p,x < n):putL p n=p++[n]:=by
 have hc:p.contains n=false:=by
  rw [Bool.eq_false_iff]
  intro hn
  have:=h n (by simpa using hn)
  omega
 have ht:p.takeWhile (fun x=>decide (x < n))=p:=by
  clear hc
  induction p with
  | nil=>rfl
  | cons a p ih=>rw [List.takeWhile_cons,if_pos (by simpa using h a List.mem_cons_self),ih (fun x hx=>h x (List.mem_cons_of_mem _ hx))]
 unfold putL
 rw [hc,ht,List.take_of_length_le (Nat.le_refl _),List.drop_of_length_le (Nat.le_refl _)]
 rfl
theorem foldl_putL : ∀ (l p:List Int) (c:Int),ris l c→(∀ x∈p,∀ y∈l,x < y)→l.foldl putL p=p++l
 | [],p,_,_,_=>by simp
 | n :: l,p,c,h,hp=>by
  rw [List.foldl_cons,putL_end p n (fun x hx=>hp x hx n List.mem_cons_self),foldl_putL l (p++[n]) c (ris_tail h) ?_,List.append_assoc]
  ·rfl
  ·intro x hx y hy
   rcases List.mem_append.1 hx with hx | hx
   ·exact hp x hx y (List.mem_cons_of_mem _ hy)
   ·obtain rfl:x=n:=by simpa using hx
    exact ris_lt h y hy
theorem setI_ok {l:List Int} {c:Int} (h:ris l c) (hc:c≤6):isSet (setI l)∧setL (setI l)=l:=by
 obtain ⟨k1,k2⟩:=orB_foldl l 0 ⟨by omega,by omega⟩ (fun x hx=>by have:=ris_mem h x hx;omega)
 refine ⟨k1,?_⟩
 unfold setI
 rw [k2,show setL 0=[] from by decide +kernel,foldl_putL l [] c h (fun x hx=>by cases hx)]
 rfl
theorem ris_len {l:List Int} {c:Int} (h:ris l c) (hc:c≤6):l.length≤6:=by
 rw [← (setI_ok h hc).2];exact setL_len _
def andS (a b:Int):Int:=Go.bits .and .i64 a b
def minusS (a b:Int):Int:=Go.bits .andNot .i64 a b
theorem andS_eq {a b:Int} (ha:isSet a) (hb:isSet b):isSet (andS a b)∧setL (andS a b)=(setL a).filter (fun x=>(setL b).contains x):=by
 obtain ⟨a,rfl⟩:=fin_set ha
 obtain ⟨b,rfl⟩:=fin_set hb
 have key:∀ a b:Fin 64,(0≤andS (a.val:Int) (b.val:Int)∧andS (a.val:Int) (b.val:Int) < 64)∧setL (andS (a.val:Int) (b.val:Int))=(setL (a.val:Int)).filter (fun x=>(setL (b.val:Int)).contains x):=by decide +kernel
 exact key a b
theorem minusS_eq {a b:Int} (ha:isSet a) (hb:isSet b):isSet (minusS a b)∧setL (minusS a b)=(setL a).filter (fun x=>!(setL b).contains x):=by
 obtain ⟨a,rfl⟩:=fin_set ha
 obtain ⟨b,rfl⟩:=fin_set hb
 have key:∀ a b:Fin 64,(0≤minusS (a.val:Int) (b.val:Int)∧minusS (a.val:Int) (b.val:Int) < 64)∧setL (minusS (a.val:Int) (b.val:Int))=(setL (a.val:Int)).filter (fun x=>!(setL (b.val:Int)).contains x):=by decide +kernel
 exact key a b
theorem mem_putL (l:List Int) (n x:Int):x∈putL l n↔x=n ∨ x∈l:=by
 unfold putL
 split
 ·rename_i h
  have h2:n∈l:=by simpa using h
  exact ⟨.inr,fun h3=>h3.elim (fun e=>e ▸ h2) id⟩
 ·generalize (l.takeWhile fun y=>decide (y < n)).length=m
  rw [List.mem_append,List.mem_cons]
  have e:x∈l↔x∈l.take m ∨ x∈l.drop m:=by rw [← List.mem_append,List.take_append_drop]
  rw [e]
  exact ⟨fun h=>h.elim (fun h=>.inr (.inl h)) (fun h=>h.elim .inl (fun h=>.inr (.inr h))),fun h=>h.elim (fun h=>.inr (.inl h)) (fun h=>h.elim .inl (fun h=>.inr (.inr h)))⟩
theorem mem_foldl_putL : ∀ (l p:List Int) (x:Int),x∈l.foldl putL p↔x∈p ∨ x∈l
 | [],p,x=>by simp
 | n :: l,p,x=>by
  rw [List.foldl_cons,mem_foldl_putL l,mem_putL,List.mem_cons]
  exact ⟨fun h=>h.elim (fun h=>h.elim (fun h=>.inr (.inl h)) .inl) (fun h=>.inr (.inr h)),fun h=>h.elim (fun h=>.inl (.inr h)) (fun h=>h.elim (fun h=>.inl (.inl h)) .inr)⟩
theorem mem_or {a b:Int} (ha:isSet a) (hb:isSet b) (x:Int):x∈setL (orS a b)↔x∈setL a ∨ x∈setL b:=by rw [orS_fold ha hb,mem_foldl_putL]
theorem mem_and {a b:Int} (ha:isSet a) (hb:isSet b) (x:Int):x∈setL (andS a b)↔x∈setL a∧x∈setL b:=by rw [(andS_eq ha hb).2,List.mem_filter];simp
theorem mem_minus {a b:Int} (ha:isSet a) (hb:isSet b) (x:Int):x∈setL (minusS a b)↔x∈setL a∧x ∉ setL b:=by rw [(minusS_eq ha hb).2,List.mem_filter];simp
theorem mem_has {a b:Int} (ha:isSet a) (hb:isSet b):hasB a b=true↔∀ x∈setL b,x∈setL a:=by rw [hasB_iff ha hb,List.all_eq_true];simp
theorem setL_pw (s:Int):(setL s).Pairwise (· < ·):=by
 unfold setL
 rw [List.pairwise_map]
 refine List.Pairwise.imp (fun h=>by omega) ((List.pairwise_lt_range (n:=6)).filter _)
theorem pw_eq : ∀ {a b:List Int},a.Pairwise (· < ·)→b.Pairwise (· < ·)→(∀ x,x∈a↔x∈b)→a=b
 | [],[],_,_,_=>rfl
 | [],y :: b,_,_,h=>absurd ((h y).2 List.mem_cons_self) (by simp)
 | x :: a,[],_,_,h=>absurd ((h x).1 List.mem_cons_self) (by simp)
 | x :: a,y :: b,ha,hb,h=>by
  obtain ⟨hx,ha2⟩:=List.pairwise_cons.1 ha
  obtain ⟨hy,hb2⟩:=List.pairwise_cons.1 hb
  have e:x=y:=by
   rcases List.mem_cons.1 ((h x).1 List.mem_cons_self) with e | m
   ·exact e
   ·rcases List.mem_cons.1 ((h y).2 List.mem_cons_self) with e | m2
    ·exact e.symm
    ·have:=hy x m;have:=hx y m2;omega
  subst e
  rw [pw_eq ha2 hb2 fun z=>?_]
  constructor
  ·intro hz
   rcases List.mem_cons.1 ((h z).1 (List.mem_cons_of_mem _ hz)) with e | m
   ·have:=hx z hz;omega
   ·exact m
  ·intro hz
   rcases List.mem_cons.1 ((h z).2 (List.mem_cons_of_mem _ hz)) with e | m
   ·have:=hy z hz;omega
   ·exact m
/-- A set has another one: it is as great just if it is the same. -/
theorem sub_len {a b:Int} (ha:isSet a) (hb:isSet b) (h:∀ x∈setL b,x∈setL a):(setL b).length≤(setL a).length∧((setL b).length=(setL a).length↔a=b):=by
 obtain ⟨a,rfl⟩:=fin_set ha
 obtain ⟨b,rfl⟩:=fin_set hb
 have key:∀ a b:Fin 64,(∀ x∈setL (b.val:Int),x∈setL (a.val:Int))→(setL (b.val:Int)).length≤(setL (a.val:Int)).length∧((setL (b.val:Int)).length=(setL (a.val:Int)).length↔(a.val:Int)=(b.val:Int)):=by decide +kernel
 exact key a b h
theorem l1Has_ev (l:List Int) (x:Int) (hl:l.length≤4194304):Ev (fun k=>spec_l1Has.f k l x) (l.contains x):=by
 have loop:=loop_up (n:=l.length) (P:=fun i=>Ev (fun k=>spec_l1Has.l0 k x l (l.length:Int) (i:Int)) ((l.drop i).contains x)) ?_ ?_
 ·unfold spec_l1Has.f
  exact loop 0 (Nat.zero_le _)
 ·refine Ev.succ ?_
  simp only [spec_l1Has.l0]
  exact Ev.neg (by omega) (Ev.const (by simp))
 ·intro i hi ih
  refine Ev.succ ?_
  simp only [spec_l1Has.l0]
  refine Ev.pos (by omega) (Ev.pos (by omega) (Ev.pos (by omega) ?_))
  rw [List.drop_eq_getElem_cons hi,List.contains_cons,rd_nat hi,wrap_add (by omega) (by omega)]
  by_cases h:l[i]=x
  ·exact Ev.pos h (Ev.const (by simp [h]))
  ·have h':(x == l[i])=false:=by simpa using fun e=>h e.symm
   rw [h',Bool.false_or]
   exact Ev.neg h ih
theorem takeWhile_at (p:Int→Bool):∀ (l:List Int) (i:Nat),i≤l.length→(∀ j,(h:j < l.length)→j < i→p l[j]=true)→(∀ h:i < l.length,p l[i]=false)→(l.takeWhile p).length=i
 | [],i,hi,_,_=>by simp at hi;simp [hi]
 | a :: l,0,_,_,h2=>by have:=h2 (by simp);simp at this;simp [List.takeWhile_cons,this]
 | a :: l,i + 1,hi,h1,h2=>by
  have h0:=h1 0 (by simp) (by omega)
  simp at h0
  rw [List.takeWhile_cons,h0]
  simp only [if_true,List.length_cons]
  rw [takeWhile_at p l i (by simpa using hi) (fun j h hj=>by have:=h1 (j + 1) (by simpa using h) (by omega);simpa using this) (fun h=>by have:=h2 (by simpa using h);simpa using this)]
theorem l7Put_ev (l:List Int) (n:Int) (hl:l.length≤1000):Ev (fun k=>spec_l7Put.f k l n) (putL l n):=by
 unfold spec_l7Put.f
 refine Ev.bind (l1Has_ev l n (by omega)) ?_
 by_cases hc:l.contains n=true
 ·rw [putL,if_pos hc]
  exact Ev.pos hc (Ev.const rfl)
 ·refine Ev.neg hc ?_
  rw [putL,if_neg hc]
  have done:∀ i:Nat,i≤l.length→(∀ j,(h:j < l.length)→j < i→decide (l[j] < n)=true)→(∀ h:i < l.length,decide (l[i] < n)=false)→l.take (l.takeWhile (fun x=>decide (x < n))).length++n :: l.drop (l.takeWhile (fun x=>decide (x < n))).length=([]++l.take (i:Int).toNat)++[n]++l.drop (i:Int).toNat:=by
   intro i hi h1 h2
   rw [takeWhile_at _ l i hi h1 h2];simp
  have loop:=loop_up (n:=l.length) (P:=fun i=>(∀ j,(h:j < l.length)→j < i→decide (l[j] < n)=true)→Ev (fun k=>spec_l7Put.l0 k l n (i:Int)) (l.take (l.takeWhile (fun x=>decide (x < n))).length++n :: l.drop (l.takeWhile (fun x=>decide (x < n))).length)) ?_ ?_
  ·exact loop 0 (Nat.zero_le _) (fun j _ h=>absurd h (Nat.not_lt_zero _))
  ·intro h1
   refine Ev.succ ?_
   rw [done l.length (Nat.le_refl _) h1 (fun h=>absurd h (Nat.lt_irrefl _))]
   simp only [spec_l7Put.l0,Option.bind_some]
   refine Ev.neg (by omega) (Ev.pos (by omega) (Ev.pos (by omega) (Ev.pos (by simp;omega) (Ev.pos (by simp;omega) (Ev.pos (by simp;omega) (Ev.const rfl))))))
  ·intro i hi ih h1
   refine Ev.succ ?_
   simp only [spec_l7Put.l0,Option.bind_some]
   refine Ev.pos (by omega) (Ev.pos (by omega) ?_)
   rw [rd_nat hi,wrap_add (by omega) (by omega)]
   by_cases h:l[i] < n
   ·refine Ev.pos h (ih (fun j hj hji=>?_))
    by_cases e:j=i
    ·subst e;simpa using h
    ·exact h1 j hj (by omega)
   ·refine Ev.neg h ?_
    rw [done i (by omega) h1 (fun _=>by simpa using h)]
    exact Ev.pos (by omega) (Ev.pos (by simp;omega) (Ev.pos (by simp;omega) (Ev.pos (by simp;omega) (Ev.const rfl))))
/-! ### chapter 7: dependencies -/
open Classical in
noncomputable def tell (p : Prop) : Bool := decide p
theorem tell_yes {p:Prop} (h:p):tell p=true:=by simp [tell,h]
theorem tell_no {p:Prop} (h:¬ p):tell p=false:=by simp [tell,h]
theorem tell_iff {p:Prop}:tell p=true↔p:=by simp [tell]
theorem l7All_ev (a b:List Int) (ha:a.length≤4194304) (hb:b.length≤4194304):Ev (fun k=>spec_l7All.f k a b) (b.all fun x=>a.contains x):=by
 have loop:=loop_up (n:=b.length) (P:=fun i=>Ev (fun k=>spec_l7All.l0 k a b (b.length:Int) (i:Int)) ((b.drop i).all fun x=>a.contains x)) ?_ ?_
 ·exact loop 0 (Nat.zero_le _)
 ·refine Ev.succ ?_
  simp only [spec_l7All.l0]
  exact Ev.neg (by omega) (Ev.const (by simp))
 ·intro i hi ih
  refine Ev.succ ?_
  simp only [spec_l7All.l0]
  rw [rd_nat hi,wrap_add (by omega) (by omega),List.drop_eq_getElem_cons hi,List.all_cons]
  refine Ev.pos (by omega) (Ev.pos (by omega) (Ev.pos (by omega) (Ev.bind (l1Has_ev a b[i] ha) ?_)))
  cases h:a.contains b[i] with
  | true=>exact Ev.pos rfl (by simpa using ih)
  | false=>exact Ev.neg (by simp) (Ev.const (by simp))
theorem setOf_ev (l:List Int) (hl:l.length≤4194304) (h:∀ x∈l,0≤x):Ev (fun k=>impl_setOf.f k l) (setI l):=by
 have loop:=loop_up (n:=l.length) (P:=fun i=>∀ s:Int,(l.drop i).foldl orB s=setI l→Ev (fun k=>impl_setOf.l0 k s l (l.length:Int) (i:Int)) (setI l)) ?_ ?_
 ·exact loop 0 (Nat.zero_le _) 0 rfl
 ·intro s hs
  refine Ev.succ ?_
  simp only [impl_setOf.l0]
  exact Ev.neg (by omega) (Ev.const (by rw [← hs];simp))
 ·intro i hi ih s hs
  refine Ev.succ ?_
  simp only [impl_setOf.l0]
  rw [rd_nat hi,wrap_add (by omega) (by omega)]
  refine Ev.pos (by omega) (Ev.pos (by omega) (Ev.pos (by omega) (Ev.pos (h _ (List.getElem_mem hi)) (ih _ ?_))))
  rw [← hs,List.drop_eq_getElem_cons hi];rfl
/-- The reference's rounds, on lists. -/
theorem l7Put_set (s n:Int) (hs:isSet s) (h0:0≤n) (h5:n≤5):Ev (fun k=>spec_l7Put.f k (setL s) n) (setL (orB s n)):=by
 rw [(orB_ok hs h0 h5).2]
 exact l7Put_ev (setL s) n (by have:=setL_len s;omega)
theorem ris_from {l:List Int} {c:Int} (P:Nat→Prop) (hP:∀ i,P i↔∀ j,(hj:j < l.length)→j < i→0≤l[j]∧l[j] < c∧(0 < j→l[j - 1]'(by omega) < l[j])):P l.length↔ris l c:=by
 rw [hP]
 exact ⟨fun h i hi=>h i hi hi,fun h j hj _=>h j hj⟩
theorem l1Some_ev (l:List Int) (c:Int) (hl:l.length≤4194304):Ev (fun k=>spec_l1Some.f k l c) (tell (ris l c)):=by
 have loop:=loop_up (n:=l.length) (P:=fun i=>(∀ j,(hj:j < l.length)→j < i→0≤l[j]∧l[j] < c∧(0 < j→l[j - 1]'(by omega) < l[j]))→Ev (fun k=>spec_l1Some.l0 k l c l (l.length:Int) (i:Int)) (tell (ris l c))) ?_ ?_
 ·exact loop 0 (Nat.zero_le _) (fun j _ h=>absurd h (Nat.not_lt_zero _))
 ·intro g
  refine Ev.succ ?_
  simp only [spec_l1Some.l0]
  exact Ev.neg (by omega) (Ev.const (by rw [tell_yes (show ris l c from fun i hi=>g i hi hi)]))
 ·intro i hi ih g
  refine Ev.succ ?_
  simp only [spec_l1Some.l0]
  rw [rd_nat hi,wrap_add (by omega) (by omega)]
  refine Ev.pos (by omega) (Ev.pos (by omega) (Ev.pos (by omega) ?_))
  by_cases h1:l[i] < 0
  ·exact Ev.pos h1 (Ev.const (by rw [tell_no fun h=>by have:=(h i hi).1;omega]))
  refine Ev.neg h1 ?_
  by_cases h2:l[i] ≥ c
  ·exact Ev.pos h2 (Ev.const (by rw [tell_no fun h=>by have:=(h i hi).2.1;omega]))
  refine Ev.neg h2 ?_
  have next:(0 < i→l[i - 1]'(by omega) < l[i])→Ev (fun k=>spec_l1Some.l0 k l c l (l.length:Int) ((i:Int) + 1)) (tell (ris l c)):=fun hn=>ih fun j hj hji=>by
   by_cases e:j=i
   ·subst e;exact ⟨by omega,by omega,hn⟩
   ·exact g j hj (by omega)
  by_cases h3:0 < i
  ·refine Ev.pos (by omega) ?_
   rw [wrap_id (by omega) (by omega),show (i:Int) - 1=((i - 1:Nat):Int) by omega,rd_nat (show i - 1 < l.length by omega)]
   refine Ev.pos (by omega) (Ev.pos (by omega) ?_)
   by_cases h4:l[i - 1] ≥ l[i]
   ·exact Ev.pos h4 (Ev.const (by rw [tell_no fun h=>by have:=(h i hi).2.2 h3;omega]))
   ·exact Ev.neg h4 (next fun _=>by omega)
  ·exact Ev.neg (by omega) (next fun h=>absurd h h3)
theorem areRising_ev (l:List Int) (c:Int) (hl:l.length≤4194304):Ev (fun k=>impl_areRising.f k l c) (tell (ris l c)):=by
 have loop:=loop_up (n:=l.length) (P:=fun i=>(∀ j,(hj:j < l.length)→j < i→0≤l[j]∧l[j] < c∧(0 < j→l[j - 1]'(by omega) < l[j]))→Ev (fun k=>impl_areRising.l0 k l c l (l.length:Int) (i:Int)) (tell (ris l c))) ?_ ?_
 ·exact loop 0 (Nat.zero_le _) (fun j _ h=>absurd h (Nat.not_lt_zero _))
 ·intro g
  refine Ev.succ ?_
  simp only [impl_areRising.l0]
  exact Ev.neg (by omega) (Ev.const (by rw [tell_yes (show ris l c from fun i hi=>g i hi hi)]))
 ·intro i hi ih g
  refine Ev.succ ?_
  simp only [impl_areRising.l0,impl_isPlace.f]
  rw [rd_nat hi,wrap_add (by omega) (by omega)]
  refine Ev.pos (by omega) (Ev.pos (by omega) (Ev.pos (by omega) ?_))
  by_cases h1:l[i] ≥ 0
  case neg =>
   refine Ev.bind (a:=false) (Ev.const (if_neg h1)) (Ev.neg (by simp) (Ev.const ?_))
   rw [tell_no fun h=>by have:=(h i hi).1;omega]
  by_cases h2:l[i] < c
  case neg =>
   refine Ev.bind (a:=false) (Ev.const (by rw [if_pos h1,decide_eq_false h2])) (Ev.neg (by simp) (Ev.const ?_))
   rw [tell_no fun h=>by have:=(h i hi).2.1;omega]
  refine Ev.bind (a:=true) (Ev.const (by rw [if_pos h1,decide_eq_true h2])) (Ev.pos rfl ?_)
  have next:(0 < i→l[i - 1]'(by omega) < l[i])→Ev (fun k=>impl_areRising.l0 k l c l (l.length:Int) ((i:Int) + 1)) (tell (ris l c)):=fun hn=>ih fun j hj hji=>by
   by_cases e:j=i
   ·subst e;exact ⟨by omega,by omega,hn⟩
   ·exact g j hj (by omega)
  by_cases h3:0 < i
  ·refine Ev.pos (by omega) ?_
   rw [wrap_id (by omega) (by omega),show (i:Int) - 1=((i - 1:Nat):Int) by omega,rd_nat (show i - 1 < l.length by omega)]
   refine Ev.pos (by omega) (Ev.pos (by omega) ?_)
   by_cases h4:l[i]≤l[i - 1]
   ·exact Ev.pos h4 (Ev.const (by rw [tell_no fun h=>by have:=(h i hi).2.2 h3;omega]))
   ·exact Ev.neg h4 (next fun _=>by omega)
  ·exact Ev.neg (by omega) (next fun h=>absurd h h3)
/-- A dependency of so many columns; good dependencies. -/
def depOk (c:Int) (d:S68):Prop:=ris d.f0 c∧ris d.f1 c
def depsOk (l:List S68) (c:Int):Prop:=(∀ d∈l,depOk c d)∧1≤c∧c≤6∧l.length≤10
def shortD (l:List S68):Prop:=l.length≤1048576∧∀ x∈l,x.f0.length≤1048576∧x.f1.length≤1048576
theorem l7Depend_ev (d:S68) (c:Int) (h:d.f0.length≤1048576∧d.f1.length≤1048576):Ev (fun k=>spec_l7Depend.f k d.f0 d.f1 c) (tell (depOk c d)):=by
 unfold spec_l7Depend.f
 refine Ev.bind (l1Some_ev d.f0 c (by omega)) ?_
 by_cases h1:ris d.f0 c
 ·refine Ev.pos (tell_yes h1) (Ev.bind (l1Some_ev d.f1 c (by omega)) (Ev.const ?_))
  congr 1
  rw [Bool.eq_iff_iff,tell_iff,tell_iff]
  exact ⟨fun h2=>⟨h1,h2⟩,fun h2=>h2.2⟩
 ·exact Ev.neg (by rw [tell_no h1];simp) (Ev.const (by rw [tell_no fun h2=>h1 h2.1]))
theorem isDepend_ev (d:S68) (c:Int) (h:d.f0.length≤1048576∧d.f1.length≤1048576):Ev (fun k=>impl_isDepend.f k d.f0 d.f1 c) (tell (depOk c d)):=by
 unfold impl_isDepend.f
 refine Ev.bind (areRising_ev d.f0 c (by omega)) ?_
 by_cases h1:ris d.f0 c
 ·refine Ev.pos (tell_yes h1) (Ev.bind (areRising_ev d.f1 c (by omega)) (Ev.const ?_))
  congr 1
  rw [Bool.eq_iff_iff,tell_iff,tell_iff]
  exact ⟨fun h2=>⟨h1,h2⟩,fun h2=>h2.2⟩
 ·exact Ev.neg (by rw [tell_no h1];simp) (Ev.const (by rw [tell_no fun h2=>h1 h2.1]))
theorem rdD {l:List S68} {i:Nat} (h:i < l.length):rd_T68 l (i:Int)=l[i]:=by simp [rd_T68,h]
theorem rdR {l:List S93} {i:Nat} (h:i < l.length):rd_T93 l (i:Int)=l[i]:=by simp [rd_T93,h]
theorem specGood_ev (l:List S68) (c:Int) (hl:shortD l):Ev (fun k=>spec_GoodDepends.f k l c) (tell (depsOk l c)):=by
 have hln:=hl.1
 have loop:=loop_up (n:=l.length) (P:=fun i=>(∀ j,(hj:j < l.length)→j < i→depOk c l[j])→Ev (fun k=>spec_GoodDepends.l0 k l c l (l.length:Int) (i:Int)) (tell (depsOk l c))) ?_ ?_
 ·exact loop 0 (Nat.zero_le _) (fun j _ h=>absurd h (Nat.not_lt_zero _))
 ·intro g
  have all:∀ d∈l,depOk c d:=fun d hd=>by obtain ⟨i,hi,rfl⟩:=List.getElem_of_mem hd;exact g i hi hi
  refine Ev.succ ?_
  simp only [spec_GoodDepends.l0,spec_l1In.f]
  refine Ev.neg (by omega) ?_
  by_cases h1:c ≥ 1
  case neg=>exact Ev.bind (Ev.const (if_neg h1)) (Ev.neg (by simp) (Ev.const (by rw [tell_no fun h=>h1 h.2.1])))
  by_cases h2:c≤6
  case neg=>exact Ev.bind (Ev.const (by rw [if_pos h1,decide_eq_false h2])) (Ev.neg (by simp) (Ev.const (by rw [tell_no fun h=>h2 h.2.2.1])))
  refine Ev.bind (Ev.const (by rw [if_pos h1,decide_eq_true h2])) (Ev.pos rfl (Ev.const ?_))
  congr 1
  rw [Bool.eq_iff_iff,decide_eq_true_iff,tell_iff]
  exact ⟨fun h=>⟨all,h1,h2,by omega⟩,fun h=>by have:=h.2.2.2;omega⟩
 ·intro i hi ih g
  refine Ev.succ ?_
  simp only [spec_GoodDepends.l0]
  rw [rdD hi,wrap_add (by omega) (by omega)]
  refine Ev.pos (by omega) (Ev.pos (by omega) (Ev.pos (by omega) (Ev.bind (l7Depend_ev l[i] c (hl.2 _ (List.getElem_mem hi))) ?_)))
  by_cases h1:depOk c l[i]
  ·refine Ev.pos (tell_yes h1) (ih fun j hj hji=>?_)
   by_cases e:j=i
   ·subst e;exact h1
   ·exact g j hj (by omega)
  ·exact Ev.neg (by rw [tell_no h1];simp) (Ev.const (by rw [tell_no fun h=>h1 (h.1 _ (List.getElem_mem hi))]))
theorem implGood_ev (l:List S68) (c:Int) (hl:shortD l):Ev (fun k=>impl_GoodDepends.f k l c) (tell (depsOk l c)):=by
 unfold impl_GoodDepends.f impl_within.f
 by_cases h1:1≤c
 case neg=>exact Ev.bind (Ev.const (if_neg h1)) (Ev.neg (by simp) (Ev.const (by rw [tell_no fun h=>h1 h.2.1])))
 by_cases h2:c≤6
 case neg=>exact Ev.bind (Ev.const (by rw [if_pos h1,decide_eq_false h2])) (Ev.neg (by simp) (Ev.const (by rw [tell_no fun h=>h2 h.2.2.1])))
 refine Ev.bind (Ev.const (by rw [if_pos h1,decide_eq_true h2])) (Ev.pos rfl ?_)
 by_cases h3:(l.length:Int)≤10
 case neg=>exact Ev.neg h3 (Ev.const (by rw [tell_no fun h=>h3 (by have:=h.2.2.2;omega)]))
 refine Ev.pos h3 ?_
 have all:∀ l:List S68,(∀ x∈l,x.f0.length≤1048576∧x.f1.length≤1048576)→∃ K,∀ k,K≤k→∀ d∈l,impl_isDepend.f k d.f0 d.f1 c=some (tell (depOk c d)):=by
  intro l
  induction l with
  | nil=>exact fun _=>⟨0,fun _ _ d hd=>by cases hd⟩
  | cons a l ih =>
   intro h
   obtain ⟨K1,hK1⟩:=ih (fun x hx=>h x (List.mem_cons_of_mem _ hx))
   obtain ⟨K2,hK2⟩:=isDepend_ev a c (h a List.mem_cons_self)
   refine ⟨K1 + K2,fun k hk d hd=>?_⟩
   rcases List.mem_cons.1 hd with rfl | hd
   ·exact hK2 k (by omega)
   ·exact hK1 k (by omega) d hd
 obtain ⟨K,hK⟩:=all l hl.2
 have hE:Ev (fun k=>areAll_GoodDepends1.f k l c) (tell (∀ d∈l,depOk c d)):=by
  refine ⟨K,fun k hk=>?_⟩
  have h4:=hK k hk
  show areAll_GoodDepends1.f k l c=_
  unfold areAll_GoodDepends1.f
  rw [if_pos (List.all_eq_true.2 fun d hd=>by rw [h4 d hd];rfl)]
  congr 1
  rw [Bool.eq_iff_iff,List.all_eq_true,tell_iff]
  refine forall_congr' fun d=>forall_congr' fun hd=>?_
  unfold depB
  rw [h4 d hd]
  exact tell_iff
 refine Ev.bind hE (Ev.const ?_)
 congr 1
 rw [Bool.eq_iff_iff,tell_iff,tell_iff]
 exact ⟨fun h=>⟨h,h1,h2,by omega⟩,fun h=>h.1⟩
/-- A list of dependencies as rules of sets. -/
def ruleI (d:S68):S93:=⟨setI d.f0,setI d.f1⟩
def rulesI (l:List S68):List S93:=l.map ruleI
def ruleSet (r:S93):Prop:=isSet r.f0∧isSet r.f1
theorem ruleI_ok {d:S68} {c:Int} (h:depOk c d) (hc:c≤6):ruleSet (ruleI d)∧setL (ruleI d).f0=d.f0∧setL (ruleI d).f1=d.f1 :=
 ⟨⟨(setI_ok h.1 hc).1,(setI_ok h.2 hc).1⟩,(setI_ok h.1 hc).2,(setI_ok h.2 hc).2⟩
theorem rulesI_ok {l:List S68} {c:Int} (h:∀ d∈l,depOk c d) (hc:c≤6):∀ r∈rulesI l,ruleSet r:=by
 intro r hr
 obtain ⟨d,hd,rfl⟩:=List.mem_map.1 hr
 exact (ruleI_ok (h d hd) hc).1
/-- One round of what columns tell; what they tell. -/
def stepR (s:Int) (r:S93):Int:=if hasB s r.f0=true then orS s r.f1 else s
def roundR (R:List S93) (s:Int):Int:=R.foldl stepR s
theorem stepR_ok {s:Int} {r:S93} (hs:isSet s) (hr:ruleSet r):isSet (stepR s r):=by
 unfold stepR;split
 ·exact orS_set hs hr.2
 ·exact hs
theorem roundR_ok : ∀ {R:List S93} {s:Int},isSet s→(∀ r∈R,ruleSet r)→isSet (roundR R s)
 | [],s,hs,_=>hs
 | r :: R,s,hs,h=>roundR_ok (R:=R) (stepR_ok hs (h r List.mem_cons_self)) (fun x hx=>h x (List.mem_cons_of_mem _ hx))
theorem roundR_len : ∀ {R:List S93} {s:Int},isSet s→(∀ r∈R,ruleSet r)→(setL s).length≤(setL (roundR R s)).length∧((setL (roundR R s)).length=(setL s).length→roundR R s=s)
 | [],s,hs,_=>⟨Nat.le_refl _,fun _=>rfl⟩
 | r :: R,s,hs,h=>by
  have hr:=h r List.mem_cons_self
  obtain ⟨k1,k2⟩:=roundR_len (R:=R) (stepR_ok hs hr) (fun x hx=>h x (List.mem_cons_of_mem _ hx))
  have hst:(setL s).length≤(setL (stepR s r)).length∧((setL (stepR s r)).length=(setL s).length→stepR s r=s):=by
   unfold stepR;split
   ·exact ⟨(orS_len hs hr.2).1,fun e=>((orS_len hs hr.2).2.1 e.symm)⟩
   ·exact ⟨Nat.le_refl _,fun _=>rfl⟩
  show (setL s).length≤(setL (roundR R (stepR s r))).length∧((setL (roundR R (stepR s r))).length=(setL s).length→roundR R (stepR s r)=s)
  refine ⟨by omega,fun e=>?_⟩
  have e1:=hst.2 (by omega)
  rw [e1] at k2 e ⊢
  exact k2 e
def cloN (R:List S93):Nat→Int→Int
 | 0,s=>s
 | n + 1,s=>if roundR R s=s then s else cloN R n (roundR R s)
/-- What columns tell. -/
def cloI (R:List S93) (s:Int):Int:=cloN R 7 s
theorem cloN_ok {R:List S93} (h:∀ r∈R,ruleSet r):∀ n {s:Int},isSet s→isSet (cloN R n s)
 | 0,_,hs=>hs
 | n + 1,s,hs=>by
  unfold cloN;split
  ·exact hs
  ·exact cloN_ok h n (roundR_ok hs h)
theorem cloI_ok {R:List S93} {s:Int} (h:∀ r∈R,ruleSet r) (hs:isSet s):isSet (cloI R s):=cloN_ok h 7 hs
theorem rulesOf_ev (l:List S68) (c:Int) (hl:l.length≤1000) (h:∀ d∈l,depOk c d) (hc:c≤6):Ev (fun k=>impl_rulesOf.f k l) (rulesI l):=by
 have loop:=loop_up (n:=l.length) (P:=fun i=>Ev (fun k=>impl_rulesOf.l0 k (rulesI (l.take i)) l (l.length:Int) (i:Int)) (rulesI l)) ?_ ?_
 ·exact loop 0 (Nat.zero_le _)
 ·refine Ev.succ ?_
  simp only [impl_rulesOf.l0]
  exact Ev.neg (by omega) (Ev.const (by simp))
 ·intro i hi ih
  obtain ⟨h0,h1⟩:=h _ (List.getElem_mem hi)
  refine Ev.succ ?_
  simp only [impl_rulesOf.l0]
  rw [rdD hi,wrap_add (by omega) (by omega)]
  refine Ev.pos (by omega) (Ev.pos (by omega) (Ev.pos (by omega) (Ev.bind (setOf_ev l[i].f0 (by have:=ris_len h0 hc;omega) (fun x hx=>(ris_mem h0 x hx).1)) (Ev.bind (setOf_ev l[i].f1 (by have:=ris_len h1 hc;omega) (fun x hx=>(ris_mem h1 x hx).1)) (Ev.pos (by simp [rulesI];omega) ?_)))))
  rw [show rulesI (l.take i)++[⟨setI l[i].f0,setI l[i].f1⟩]=rulesI (l.take (i + 1)) by unfold rulesI;rw [List.take_succ_eq_append_getElem hi,List.map_append];rfl]
  exact ih
theorem closure_round (R:List S93) (hR:R.length≤1000) (x1:Int) {r:Int}:∀ (s:Int) (i:Nat),i≤R.length→Ev (fun k=>if roundR (R.drop i) s=x1 then some x1 else impl_closure.l0 k R (roundR (R.drop i) s)) r→Ev (fun k=>impl_closure.l1 k R x1 s R (R.length:Int) (i:Int)) r:=by
 intro s i hi hq
 have loop:=loop_up (n:=R.length) (P:=fun i=>∀ s,Ev (fun k=>if roundR (R.drop i) s=x1 then some x1 else impl_closure.l0 k R (roundR (R.drop i) s)) r→Ev (fun k=>impl_closure.l1 k R x1 s R (R.length:Int) (i:Int)) r) ?_ ?_
 ·exact loop i hi s hq
 ·intro s h
  refine Ev.succ ?_
  simp only [impl_closure.l1]
  exact Ev.neg (by omega) (by simpa [roundR] using h)
 ·intro i hi ih s h
  refine Ev.succ ?_
  simp only [impl_closure.l1,impl_set_has.f]
  rw [rdR hi,wrap_add (by omega) (by omega)]
  rw [List.drop_eq_getElem_cons hi] at h
  refine Ev.pos (by omega) (Ev.pos (by omega) (Ev.pos (by omega) (Ev.some_bind ?_)))
  by_cases hb:hasB s R[i].f0=true
  ·refine Ev.pos hb (ih _ ?_)
   have e:roundR (R[i] :: R.drop (i + 1)) s=roundR (R.drop (i + 1)) (Go.bits .or .i64 s R[i].f1):=by
    show roundR (R.drop (i + 1)) (stepR s R[i])=_
    unfold stepR;rw [if_pos hb];rfl
   rw [e] at h;exact h
  ·refine Ev.neg hb (ih _ ?_)
   have e:roundR (R[i] :: R.drop (i + 1)) s=roundR (R.drop (i + 1)) s:=by
    show roundR (R.drop (i + 1)) (stepR s R[i])=_
    unfold stepR;rw [if_neg hb]
   rw [e] at h;exact h
theorem closureN_ev (R:List S93) (hR:R.length≤1000) (hs:∀ r∈R,ruleSet r):∀ (n:Nat) (s:Int),isSet s→6 < (setL s).length + n→Ev (fun k=>impl_closure.l0 k R s) (cloN R n s):=by
 intro n
 induction n with
 | zero=>intro s h h2;have:=setL_len s;omega
 | succ n ih =>
  intro s h h2
  refine Ev.succ ?_
  simp only [impl_closure.l0]
  refine closure_round R hR s s 0 (Nat.zero_le _) ?_
  rw [List.drop_zero]
  unfold cloN
  obtain ⟨l1,l2⟩:=roundR_len h hs
  by_cases e:roundR R s=s
  ·rw [if_pos e];exact Ev.pos e (Ev.const rfl)
  ·rw [if_neg e]
   refine Ev.neg e (ih _ (roundR_ok h hs) ?_)
   have:(setL (roundR R s)).length ≠ (setL s).length:=fun e2=>e (l2 e2)
   omega
theorem closure_ev (R:List S93) (hR:R.length≤1000) (hs:∀ r∈R,ruleSet r) (s:Int) (h:isSet s):Ev (fun k=>impl_closure.f k R s) (cloI R s):=closureN_ev R hR hs 7 s h (by omega)
theorem l7Closure_round (l:List S68) (c:Int) (hl:l.length≤1000) (h:∀ d∈l,depOk c d) (hc:c≤6) (n:Int) {r:List Int}:∀ (s:Int) (i:Nat),isSet s→i≤l.length →
  (∀ t,isSet t→t=roundR (rulesI (l.drop i)) s→Ev (fun k=>if ((setL t).length:Int)=n then some (setL t) else spec_l7Closure.l0 k l (setL t)) r)→Ev (fun k=>spec_l7Closure.l1 k l (setL s) n l (l.length:Int) (i:Int)) r:=by
 intro s i hs hi hq
 have loop:=loop_up (n:=l.length) (P:=fun i=>∀ s,isSet s→(∀ t,isSet t→t=roundR (rulesI (l.drop i)) s→Ev (fun k=>if ((setL t).length:Int)=n then some (setL t) else spec_l7Closure.l0 k l (setL t)) r)→Ev (fun k=>spec_l7Closure.l1 k l (setL s) n l (l.length:Int) (i:Int)) r) ?_ ?_
 ·exact loop i hi s hs hq
 ·intro s hs hq
  refine Ev.succ ?_
  simp only [spec_l7Closure.l1]
  exact Ev.neg (by omega) (hq s hs (by simp [rulesI,roundR]))
 ·intro i hi ih s hs hq
  have hd:=h _ (List.getElem_mem hi)
  obtain ⟨⟨k0,k1⟩,e0,e1⟩:=ruleI_ok hd hc
  rw [List.drop_eq_getElem_cons hi] at hq
  refine Ev.succ ?_
  simp only [spec_l7Closure.l1]
  rw [rdD hi,wrap_add (by omega) (by omega)]
  refine Ev.pos (by omega) (Ev.pos (by omega) (Ev.pos (by omega) (Ev.bind (l7All_ev (setL s) l[i].f0 (by have:=setL_len s;omega) (by have:=ris_len hd.1 hc;omega)) ?_)))
  have hh:=hasB_iff hs k0
  rw [e0] at hh
  rw [← hh]
  by_cases hb:hasB s (ruleI l[i]).f0=true
  ·refine Ev.pos hb ?_
      -- the numbers of To, one after the other
   have inner:=loop_up (n:=l[i].f1.length) (P:=fun j=>∀ t,isSet t→(l[i].f1.drop j).foldl putL (setL t)=setL (orS s (ruleI l[i]).f1)→Ev (fun k=>spec_l7Closure.l2 k l (setL t) n l (l.length:Int) (i:Int) l[i].f1 (l[i].f1.length:Int) (j:Int)) r) ?_ ?_
   ·refine inner 0 (Nat.zero_le _) s hs ?_
    rw [orS_fold hs k1,e1];rfl
   ·intro t ht e
    refine Ev.succ ?_
    simp only [spec_l7Closure.l2]
    rw [wrap_add (a:=(i:Int)) (by omega) (by omega)]
    refine Ev.neg (by omega) (ih t ht fun u hu e2=>hq u hu ?_)
    have et:t=orS s (ruleI l[i]).f1:=setL_inj ht (orS_set hs k1) (by simpa using e)
    rw [e2,et]
    show roundR (rulesI (l.drop (i + 1))) _=roundR (rulesI (l.drop (i + 1))) (stepR s (ruleI l[i]))
    unfold stepR;rw [if_pos hb]
   ·intro j hj ihj t ht e
    have hm:=ris_mem hd.2 _ (List.getElem_mem hj)
    refine Ev.succ ?_
    simp only [spec_l7Closure.l2]
    have hlen:=ris_len hd.2 hc
    rw [rd_nat hj,wrap_add (a:=(j:Int)) (by omega) (by omega)]
    refine Ev.pos (by omega) (Ev.pos (by omega) (Ev.pos (by omega) (Ev.bind (l7Put_set t _ ht hm.1 (by omega)) (ihj _ (orB_ok ht hm.1 (by omega)).1 ?_))))
    rw [(orB_ok ht hm.1 (by omega)).2,← e,List.drop_eq_getElem_cons hj];rfl
  ·refine Ev.neg hb (ih s hs fun u hu e2=>hq u hu ?_)
   rw [e2]
   show _=roundR (rulesI (l.drop (i + 1))) (stepR s (ruleI l[i]))
   unfold stepR;rw [if_neg hb]
theorem l7ClosureN_ev (l:List S68) (c:Int) (hl:l.length≤1000) (h:∀ d∈l,depOk c d) (hc:c≤6):∀ (n:Nat) (s:Int),isSet s→6 < (setL s).length + n→Ev (fun k=>spec_l7Closure.l0 k l (setL s)) (setL (cloN (rulesI l) n s)):=by
 have hR:=rulesI_ok h hc
 intro n
 induction n with
 | zero=>intro s h h2;have:=setL_len s;omega
 | succ n ih =>
  intro s hs h2
  refine Ev.succ ?_
  simp only [spec_l7Closure.l0]
  refine l7Closure_round l c hl h hc _ s 0 hs (Nat.zero_le _) ?_
  intro t ht e
  rw [List.drop_zero] at e
  obtain ⟨l1,l2⟩:=roundR_len hs hR
  rw [← e] at l1 l2
  unfold cloN
  rw [← e]
  by_cases e2:t=s
  ·rw [if_pos e2];exact Ev.pos (by rw [e2]) (Ev.const (by rw [e2]))
  ·rw [if_neg e2]
   have hne:(setL t).length ≠ (setL s).length:=fun e3=>e2 (l2 e3)
   exact Ev.neg (by omega) (ih t ht (by omega))
theorem l7Closure_ev (l:List S68) (c:Int) (hl:l.length≤1000) (h:∀ d∈l,depOk c d) (hc:c≤6) (s:Int) (hs:isSet s):Ev (fun k=>spec_l7Closure.f k l (setL s)) (setL (cloI (rulesI l) s)):=by
 unfold spec_l7Closure.f
 refine Ev.some_bind (Ev.pos (by have:=setL_len s;simp;omega) ?_)
 rw [List.nil_append]
 exact l7ClosureN_ev l c hl h hc 7 s hs (by omega)
/-! ### what rules imply, told by the sets that they leave as they are -/
def shut (R:List S93) (t:Int):Prop:=∀ r∈R,hasB t r.f0=true→hasB t r.f1=true
theorem has_refl {a:Int} (ha:isSet a):hasB a a=true:=(mem_has ha ha).2 fun _ h=>h
theorem has_trans {a b c:Int} (ha:isSet a) (hb:isSet b) (hc:isSet c) (h:hasB a b=true) (h2:hasB b c=true):hasB a c=true :=
 (mem_has ha hc).2 fun x hx=>(mem_has ha hb).1 h x ((mem_has hb hc).1 h2 x hx)
theorem stepR_sub {s t:Int} {r:S93} (hs:isSet s) (ht:isSet t) (hr:ruleSet r) (h:hasB t s=true) (hc:hasB t r.f0=true→hasB t r.f1=true):hasB t (stepR s r)=true:=by
 unfold stepR
 by_cases h1:hasB s r.f0=true
 ·rw [if_pos h1]
  refine (mem_has ht (orS_set hs hr.2)).2 fun x hx=>?_
  rcases (mem_or hs hr.2 x).1 hx with h2 | h2
  ·exact (mem_has ht hs).1 h x h2
  ·exact (mem_has ht hr.2).1 (hc (has_trans ht hs hr.1 h h1)) x h2
 ·rw [if_neg h1];exact h
theorem roundR_sub {t:Int} (ht:isSet t):∀ {R:List S93} {s:Int},isSet s→(∀ r∈R,ruleSet r)→hasB t s=true→shut R t→hasB t (roundR R s)=true
 | [],s,_,_,h,_=>h
 | r :: R,s,hs,hr,h,hc=>roundR_sub (R:=R) ht (stepR_ok hs (hr r List.mem_cons_self)) (fun x hx=>hr x (List.mem_cons_of_mem _ hx)) (stepR_sub hs ht (hr r List.mem_cons_self) h (hc r List.mem_cons_self)) (fun x hx=>hc x (List.mem_cons_of_mem _ hx))
theorem cloN_sub {t:Int} (ht:isSet t) {R:List S93} (hr:∀ r∈R,ruleSet r) (hc:shut R t):∀ n {s:Int},isSet s→hasB t s=true→hasB t (cloN R n s)=true
 | 0,_,_,h=>h
 | n + 1,s,hs,h=>by
  unfold cloN
  by_cases e:roundR R s=s
  ·rw [if_pos e];exact h
  ·rw [if_neg e];exact cloN_sub ht hr hc n (roundR_ok hs hr) (roundR_sub ht hs hr h hc)
theorem stepR_up {s:Int} {r:S93} (hs:isSet s) (hr:ruleSet r):hasB (stepR s r) s=true:=by
 unfold stepR
 by_cases h1:hasB s r.f0=true
 ·rw [if_pos h1]
  exact (mem_has (orS_set hs hr.2) hs).2 fun x hx=>(mem_or hs hr.2 x).2 (.inl hx)
 ·rw [if_neg h1];exact has_refl hs
theorem roundR_up : ∀ {R:List S93} {s:Int},isSet s→(∀ r∈R,ruleSet r)→hasB (roundR R s) s=true
 | [],s,hs,_=>has_refl hs
 | r :: R,s,hs,hr=>by
  have h1:=hr r List.mem_cons_self
  have h2:∀ x∈R,ruleSet x:=fun x hx=>hr x (List.mem_cons_of_mem _ hx)
  show hasB (roundR R (stepR s r)) s=true
  exact has_trans (roundR_ok (stepR_ok hs h1) h2) (stepR_ok hs h1) hs (roundR_up (R:=R) (stepR_ok hs h1) h2) (stepR_up hs h1)
theorem cloN_up {R:List S93} (hr:∀ r∈R,ruleSet r):∀ n {s:Int},isSet s→hasB (cloN R n s) s=true
 | 0,_,hs=>has_refl hs
 | n + 1,s,hs=>by
  unfold cloN
  by_cases e:roundR R s=s
  ·rw [if_pos e];exact has_refl hs
  ·rw [if_neg e]
   exact has_trans (cloN_ok hr n (roundR_ok hs hr)) (roundR_ok hs hr) hs (cloN_up hr n (roundR_ok hs hr)) (roundR_up hs hr)
theorem has_anti {a b:Int} (ha:isSet a) (hb:isSet b) (h1:hasB a b=true) (h2:hasB b a=true):a=b :=
 setL_inj ha hb (pw_eq (setL_pw a) (setL_pw b) fun x=>⟨(mem_has hb ha).1 h2 x,(mem_has ha hb).1 h1 x⟩)
theorem round_shut : ∀ {R:List S93} {s:Int},isSet s→(∀ r∈R,ruleSet r)→roundR R s=s→shut R s
 | [],_,_,_,_=>fun r hr=>by cases hr
 | r :: R,s,hs,hr,e=>by
  have h1:=hr r List.mem_cons_self
  have h2:∀ x∈R,ruleSet x:=fun x hx=>hr x (List.mem_cons_of_mem _ hx)
  have e0:roundR R (stepR s r)=s:=e
  have up:=roundR_up (R:=R) (stepR_ok hs h1) h2
  rw [e0] at up
  have e1:stepR s r=s:=has_anti (stepR_ok hs h1) hs (stepR_up hs h1) up
  rw [e1] at e0
  intro x hx hf
  rcases List.mem_cons.1 hx with rfl | hx
  ·unfold stepR at e1
   rw [if_pos hf] at e1
   refine (mem_has hs h1.2).2 fun y hy=>?_
   rw [← e1]
   exact (mem_or hs h1.2 y).2 (.inr hy)
  ·exact round_shut hs h2 e0 x hx hf
theorem cloN_fix {R:List S93} (hr:∀ r∈R,ruleSet r):∀ n {s:Int},isSet s→6 < (setL s).length + n→roundR R (cloN R n s)=cloN R n s
 | 0,s,_,h=>by have:=setL_len s;omega
 | n + 1,s,hs,h=>by
  unfold cloN
  by_cases e:roundR R s=s
  ·rw [if_pos e];exact e
  ·rw [if_neg e]
   obtain ⟨l1,l2⟩:=roundR_len hs hr
   refine cloN_fix hr n (roundR_ok hs hr) ?_
   have:(setL (roundR R s)).length ≠ (setL s).length:=fun e2=>e (l2 e2)
   omega
theorem cloI_shut {R:List S93} (hr:∀ r∈R,ruleSet r) {s:Int} (hs:isSet s):shut R (cloI R s) :=
 round_shut (cloI_ok hr hs) hr (cloN_fix hr 7 hs (by omega))
theorem imp_iff {R:List S93} (hr:∀ r∈R,ruleSet r) {a b:Int} (ha:isSet a) (hb:isSet b) :
  hasB (cloI R a) b=true↔∀ t,isSet t→shut R t→hasB t a=true→hasB t b=true:=by
 constructor
 ·intro h t ht hc h1
  exact has_trans ht (cloI_ok hr ha) hb (cloN_sub ht hr hc 7 ha h1) h
 ·intro h
  exact h _ (cloI_ok hr ha) (cloI_shut hr ha) (cloN_up hr 7 ha)
/-- Two lists of rules leave the same sets as they are. -/
def alike (R Q:List S93):Prop:=∀ t,isSet t→(shut R t↔shut Q t)
theorem alike.refl (R:List S93):alike R R:=fun _ _=>Iff.rfl
theorem alike.trans {R Q S:List S93} (h:alike R Q) (h2:alike Q S):alike R S:=fun t ht=>(h t ht).trans (h2 t ht)
theorem alike.imp {R Q:List S93} (h:alike R Q) (hr:∀ r∈R,ruleSet r) (hq:∀ r∈Q,ruleSet r) {a b:Int} (ha:isSet a) (hb:isSet b) (hi:hasB (cloI R a) b=true):hasB (cloI Q a) b=true :=
 (imp_iff hq ha hb).2 fun t ht hc h1=>(imp_iff hr ha hb).1 hi t ht ((h t ht).2 hc) h1
theorem imp_more {R:List S93} (hr:∀ r∈R,ruleSet r) {a a2 b:Int} (ha:isSet a) (ha2:isSet a2) (hb:isSet b) (hs:hasB a2 a=true) (hi:hasB (cloI R a) b=true):hasB (cloI R a2) b=true :=
 (imp_iff hr ha2 hb).2 fun t ht hc h1=>(imp_iff hr ha hb).1 hi t ht hc (has_trans ht ha2 ha h1 hs)
theorem imp_sub {R Q:List S93} (hq:∀ r∈Q,ruleSet r) (hr:∀ r∈R,ruleSet r) (hsub:∀ r∈Q,r∈R) {a b:Int} (ha:isSet a) (hb:isSet b) (hi:hasB (cloI Q a) b=true):hasB (cloI R a) b=true :=
 (imp_iff hr ha hb).2 fun t ht hc h1=>(imp_iff hq ha hb).1 hi t ht (fun r h=>hc r (hsub r h)) h1
/-! ### all parts of a set, in their order -/
theorem bool_iff {a b:Bool} (h:a=true↔b=true):a=b:=by cases a <;> cases b <;> simp_all
def partsQ (p:Int):List Int:=(impl_partsOf.l0 100 p [] 0).getD []
def partsS (p:Int):List Int:=sortS cfP (partsQ p)
theorem parts_dec : ∀ p:Fin 64,((impl_partsOf.l0 100 (p.val:Int) [] 0).isSome && decide (0 < (partsQ (p.val:Int)).length) && decide ((partsQ (p.val:Int)).length≤1000) && (partsQ (p.val:Int)).all (fun x=>decide (0≤x∧x < 64) && hasB (p.val:Int) x))=true:=by decide +kernel
theorem parts_ok {p:Int} (hp:isSet p):impl_partsOf.l0 100 p [] 0=some (partsQ p)∧0 < (partsQ p).length∧(partsQ p).length≤1000∧∀ x∈partsQ p,isSet x∧hasB p x=true:=by
 obtain ⟨m,rfl⟩:=fin_set hp
 have h:=parts_dec m
 simp only [Bool.and_eq_true,decide_eq_true_eq] at h
 obtain ⟨⟨⟨h1,h2⟩,h3⟩,h4⟩:=h
 refine ⟨?_,h2,h3,fun x hx=>?_⟩
 ·unfold partsQ
  cases e:impl_partsOf.l0 100 (m.val:Int) [] 0 with
  | none=>rw [e] at h1;cases h1
  | some q=>rfl
 ·have:=List.all_eq_true.1 h4 x hx
  simpa [isSet] using this
theorem partsOf_ev {p:Int} (hp:isSet p):Ev (fun k=>impl_partsOf.f k p) (partsS p):=by
 obtain ⟨h1,h2,h3,h4⟩:=parts_ok hp
 refine Ev.of (fun k=>impl_partsOf.mono _ k) (k:=100) ?_
 unfold impl_partsOf.f
 rw [h1]
 show sortP (partsQ p)=_
 unfold sortP
 rw [if_pos ⟨h2,h3,List.all_eq_true.2 fun x hx=>by simpa [isSet] using (h4 x hx).1⟩]
 rfl
def ordOk (p:Int) (L:List Int):Bool:=(partsQ p).isPerm L && decide ((L.map fun x=>rankP (toF x)).Pairwise (· < ·))
theorem parts_eq {p:Int} (hp:isSet p) {L:List Int} (h:ordOk p L=true):partsS p=L:=by
 obtain ⟨h1,h2,h3,h4⟩:=parts_ok hp
 unfold ordOk at h
 simp only [Bool.and_eq_true,decide_eq_true_eq] at h
 obtain ⟨g1,g2⟩:=h
 have hperm:(partsQ p).Perm L:=List.isPerm_iff.1 g1
 have hL:∀ x∈L,0≤x∧x < 64:=fun x hx=>(h4 x (hperm.mem_iff.2 hx)).1
 rw [List.pairwise_map] at g2
 have hle:∀ x y:Fin 64,(!(Go.Proofs.ltOf cfP) y x)=decide (rankP x≤rankP y):=fun x y=>by
  rw [ltP];by_cases c:rankP y < rankP x
  ·rw [decide_eq_true c,decide_eq_false (by omega)];rfl
  ·rw [decide_eq_false c,decide_eq_true (by omega)];rfl
 have key:((partsQ p).map toF).mergeSort (fun x y=>!(Go.Proofs.ltOf cfP) y x)=L.map toF:=by
  have hfun:(fun x y=>!(Go.Proofs.ltOf cfP) y x)=fun x y=>decide (rankP x≤rankP y):=by funext x y;exact hle x y
  rw [hfun]
  refine List.Perm.eq_of_pairwise (le:=fun x y=>decide (rankP x≤rankP y)=true) (fun a b _ _ h1 h2=>?_) (List.pairwise_mergeSort (fun a b c h1 h2=>?_) (fun a b=>?_) _) ?_ ((List.mergeSort_perm _ _).trans (hperm.map toF))
  ·simp only [decide_eq_true_eq] at h1 h2
   exact rankP_inj a b (by omega)
  ·simp only [decide_eq_true_eq] at h1 h2 ⊢;omega
  ·by_cases c:rankP a≤rankP b
   ·rw [decide_eq_true c];rfl
   ·rw [decide_eq_true (show rankP b≤rankP a by omega),Bool.or_true]
  ·rw [List.pairwise_map]
   exact g2.imp fun h=>by simp only [decide_eq_true_eq];omega
 unfold partsS sortS
 rw [key,List.map_map]
 have:L.map ((fun x:Fin 64=>(x.val:Int)) ∘ toF)=L.map id:=List.map_congr_left fun x hx=>toF_val (hL x hx).1 (hL x hx).2
 rw [this,List.map_id]
theorem parts_mem {p:Int} (hp:isSet p):∀ x∈partsS p,isSet x∧hasB p x=true:=fun x hx=>by
 obtain ⟨_,_,_,h4⟩:=parts_ok hp
 exact h4 x ((sortS_perm cfP (fun x hx=>(h4 x hx).1)).mem_iff.1 hx)
theorem parts_len {p:Int} (hp:isSet p):(partsS p).length≤1000:=by
 obtain ⟨_,_,h3,h4⟩:=parts_ok hp
 rw [show (partsS p).length=(partsQ p).length from (sortS_perm cfP (fun x hx=>(h4 x hx).1)).length_eq]
 exact h3
/-! ### the keys -/
def subsQ (n m:Nat):List (List Int):=(spec_l7Subsets.f 400 (n:Int) (m:Int) 0).getD []
def wholeI (n:Int):Int:=wrap64 ((shl .i64 1 n) - 1)
def allQ (n:Nat):List (List Int):=(List.range (n + 1)).flatMap (subsQ n)
theorem subs_dec : ∀ n:Fin 7,∀ m:Fin 8,((spec_l7Subsets.f 400 (n.val:Int) (m.val:Int) 0).isSome && decide ((subsQ n.val m.val).length≤1000) && (subsQ n.val m.val).all (fun x=>decide (x=setL (setI x)∧0≤setI x∧setI x < 64∧hasB (wholeI (n.val:Int)) (setI x)=true)))=true:=by decide +kernel
theorem subs_ok {n m:Nat} (hn:n≤6) (hm:m≤n):Ev (fun k=>spec_l7Subsets.f k (n:Int) (m:Int) 0) (subsQ n m)∧(subsQ n m).length≤1000∧∀ x∈subsQ n m,x=setL (setI x)∧isSet (setI x)∧hasB (wholeI (n:Int)) (setI x)=true:=by
 have h:=subs_dec ⟨n,by omega⟩ ⟨m,by omega⟩
 simp only [Bool.and_eq_true,decide_eq_true_eq] at h
 obtain ⟨⟨h1,h2⟩,h3⟩:=h
 refine ⟨Ev.of (fun k=>spec_l7Subsets.mono _ _ _ k) (k:=400) ?_,h2,fun x hx=>?_⟩
 ·unfold subsQ
  cases e:spec_l7Subsets.f 400 (n:Int) (m:Int) 0 with
  | none=>rw [e] at h1;cases h1
  | some q=>rfl
 ·have:=List.all_eq_true.1 h3 x hx
  simp only [decide_eq_true_eq] at this
  exact ⟨this.1,⟨this.2.1,this.2.2.1⟩,this.2.2.2⟩
theorem all_dec : ∀ n:Fin 7,ordOk (wholeI (n.val:Int)) ((allQ n.val).map setI)=true:=by decide +kernel
theorem whole_dec : ∀ n:Fin 7,0≤wholeI (n.val:Int)∧wholeI (n.val:Int) < 64∧setL (wholeI (n.val:Int))=(List.range n.val).map fun (k:Nat)=>(k:Int):=by decide +kernel
theorem whole_set {n:Nat} (hn:n≤6):isSet (wholeI (n:Int))∧setL (wholeI (n:Int))=(List.range n).map fun (k:Nat)=>(k:Int):=by
 have:=whole_dec ⟨n,by omega⟩
 exact ⟨⟨this.1,this.2.1⟩,this.2.2⟩
theorem whole_val {n:Nat}:impl_whole.f (n:Int)=some (wholeI (n:Int)):=by unfold impl_whole.f wholeI;rw [if_pos (by omega)]
theorem has_whole {n:Nat} (hn:n≤6) {s:Int} (hs:isSet s):hasB (wholeI (n:Int)) s=true↔∀ x∈setL s,0≤x∧x < (n:Int):=by
 obtain ⟨w1,w2⟩:=whole_set hn
 rw [mem_has w1 hs,w2]
 constructor
 ·intro h x hx
  have:=h x hx
  simp only [List.mem_map,List.mem_range] at this
  obtain ⟨k,hk,rfl⟩:=this
  omega
 ·intro h x hx
  obtain ⟨h1,h2⟩:=h x hx
  simp only [List.mem_map,List.mem_range]
  exact ⟨x.toNat,by omega,by omega⟩
theorem clo_whole {l:List S68} {n:Nat} (hn:n≤6) (h:∀ d∈l,depOk (n:Int) d) {s:Int} (hs:isSet s) (hw:hasB (wholeI (n:Int)) s=true):hasB (wholeI (n:Int)) (cloI (rulesI l) s)=true:=by
 obtain ⟨w1,_⟩:=whole_set hn
 have hR:=rulesI_ok h (by omega:(n:Int)≤6)
 refine cloN_sub w1 hR (fun r hr _=>?_) 7 hs hw
 simp only [rulesI,List.mem_map] at hr
 obtain ⟨d,hd,rfl⟩:=hr
 obtain ⟨⟨_,r2⟩,_,e2⟩:=ruleI_ok (h d hd) (by omega:(n:Int)≤6)
 rw [has_whole hn r2,e2]
 exact fun x hx=>ris_mem (h d hd).2 x hx
/-- Does a set tell all? -/
def tells (l:List S68) (n:Int) (s:Int):Bool:=cloI (rulesI l) s == wholeI n
theorem tells_len {l:List S68} {n:Nat} (hn:n≤6) (h:∀ d∈l,depOk (n:Int) d) {s:Int} (hs:isSet s) (hw:hasB (wholeI (n:Int)) s=true):(((setL (cloI (rulesI l) s)).length:Int) == (n:Int))=tells l (n:Int) s:=by
 obtain ⟨w1,w2⟩:=whole_set hn
 have hR:=rulesI_ok h (by omega:(n:Int)≤6)
 have hc:=cloI_ok hR hs
 have hsub:=sub_len w1 hc ((mem_has w1 hc).1 (clo_whole hn h hs hw))
 have hl:(setL (wholeI (n:Int))).length=n:=by rw [w2];simp
 refine bool_iff ?_
 unfold tells
 rw [beq_iff_eq,beq_iff_eq]
 constructor
 ·intro e;exact (hsub.2.1 (by omega)).symm
 ·intro e;rw [e];omega
/-- The keys of a list of sets, in its order. -/
def keyStep (l:List S68) (n:Int) (K:List Int) (s:Int):List Int:=if tells l n s=true∧(K.any fun k=>hasB s k)=false then K++[s] else K
def keysL (l:List S68) (n:Int) (K P:List Int):List Int:=P.foldl (keyStep l n) K
theorem keysL_cons (l:List S68) (n:Int) (K:List Int) (s:Int) (P:List Int):keysL l n K (s :: P)=keysL l n (keyStep l n K s) P:=rfl
theorem keysL_app (l:List S68) (n:Int) (K P Q:List Int):keysL l n K (P++Q)=keysL l n (keysL l n K P) Q:=by unfold keysL;rw [List.foldl_append]
theorem keysL_len (l:List S68) (n:Int):∀ (P K:List Int),(keysL l n K P).length≤K.length + P.length
 | [],K=>by simp [keysL]
 | s :: P,K=>by
  rw [keysL_cons]
  have:=keysL_len l n P (keyStep l n K s)
  have h2:(keyStep l n K s).length≤K.length + 1:=by unfold keyStep;split <;> simp
  rw [List.length_cons];omega
theorem keysL_mem (l:List S68) (n:Int):∀ (P K:List Int) (x:Int),x∈keysL l n K P→x∈K ∨ x∈P∧tells l n x=true
 | [],K,x,h=>Or.inl h
 | s :: P,K,x,h=>by
  rw [keysL_cons] at h
  rcases keysL_mem l n P _ x h with h | ⟨h,h2⟩
  ·unfold keyStep at h
   split at h
   ·rename_i c
    rcases List.mem_append.1 h with h | h
    ·exact Or.inl h
    ·obtain rfl:x=s:=by simpa using h
     exact Or.inr ⟨List.mem_cons_self,c.1⟩
   ·exact Or.inl h
  ·exact Or.inr ⟨List.mem_cons_of_mem _ h,h2⟩
def keysI (l:List S68) (n:Int):List Int:=keysL l n [] (partsS (wholeI n))
theorem has_ev (a b:Int):impl_set_has.f a b=some (hasB a b):=rfl
theorem anyHas_val (K:List Int) (s:Int):anyHas.f K s=some (K.any fun k=>hasB s k):=by
 unfold anyHas.f
 have e:∀ d,impl_set_has.f s d=some (hasB s d):=fun d=>has_ev s d
 simp only [e]
 have hh:(K.all fun d=>(some (hasB s d)).isSome)=true:=List.all_eq_true.2 fun d _=>rfl
 rw [if_pos hh]
 rfl
theorem implKeys_loop (l:List S68) (n:Nat) (hl:l.length≤1000) (h:∀ d∈l,depOk (n:Int) d) (hn:n≤6) (P:List Int) (hP:P.length≤1000) (hm:∀ s∈P,isSet s) :
  ∀ (m i:Nat) (K:List Int),P.length - i≤m→i≤P.length→K.length≤i→Ev (fun k=>impl_KeysOf.l0 k l (n:Int) K (K.map setL) P (P.length:Int) (i:Int)) ((keysL l (n:Int) K (P.drop i)).map setL,true):=by
 have hR:=rulesI_ok h (by omega:(n:Int)≤6)
 have last:∀ (i:Nat) (K:List Int),¬ i < P.length→i≤P.length→Ev (fun k=>impl_KeysOf.l0 k l (n:Int) K (K.map setL) P (P.length:Int) (i:Int)) ((keysL l (n:Int) K (P.drop i)).map setL,true):=fun i K hi hi2=>by
  refine Ev.succ ?_
  simp only [impl_KeysOf.l0]
  rw [List.drop_eq_nil_of_le (by omega)]
  exact Ev.neg (by omega) (Ev.const rfl)
 intro m
 induction m with
 | zero=>exact fun i K h1 h2 _=>last i K (by omega) h2
 | succ m ih =>
  intro i K h1 h2 h3
  by_cases hi:i < P.length
  case neg=>exact last i K hi h2
  refine Ev.succ ?_
  simp only [impl_KeysOf.l0]
  have hs:=hm _ (List.getElem_mem hi)
  rw [rd_nat hi,wrap_add (by omega) (by omega),List.drop_eq_getElem_cons hi,keysL_cons]
  refine Ev.pos (by omega) (Ev.pos (by omega) (Ev.pos (by omega) (Ev.bind (rulesOf_ev l (n:Int) hl h (by omega)) (Ev.bind (closure_ev _ (by simp [rulesI];omega) hR _ hs) (Ev.bind (Ev.const whole_val) ?_)))))
  by_cases c:cloI (rulesI l) P[i]=wholeI (n:Int)
  case neg =>
   have e:keyStep l (n:Int) K P[i]=K:=by unfold keyStep;rw [if_neg];intro hh;exact c (by simpa [tells] using hh.1)
   rw [e]
   exact Ev.neg c (ih (i + 1) K (by omega) (by omega) (by omega))
  have ct:tells l (n:Int) P[i]=true:=by simpa [tells] using c
  refine Ev.pos c (Ev.bind (Ev.const (anyHas_val K P[i])) ?_)
  cases ha:K.any fun k=>hasB P[i] k with
  | true =>
   have e:keyStep l (n:Int) K P[i]=K:=by unfold keyStep;rw [if_neg];intro hh;rw [hh.2] at ha;cases ha
   rw [e]
   exact Ev.pos rfl (ih (i + 1) K (by omega) (by omega) (by omega))
  | false =>
   have e:keyStep l (n:Int) K P[i]=K++[P[i]]:=by unfold keyStep;rw [if_pos ⟨ct,ha⟩]
   rw [e]
   have:=ih (i + 1) (K++[P[i]]) (by omega) (by omega) (by simp;omega)
   rw [List.map_append] at this
   exact Ev.neg (by simp) (Ev.pos (by omega) (Ev.bind (setL_ev _ hs.1 hs.2) (Ev.pos (by simp;omega) this)))
theorem rdL {L:List (List Int)} {i:Nat} (h:i < L.length):rd_L1 L (i:Int)=L[i]:=by simp [rd_L1,h]
theorem l7All_set {a b:Int} (ha:isSet a) (hb:isSet b):Ev (fun k=>spec_l7All.f k (setL a) (setL b)) (hasB a b):=by
 have h1:=setL_len a
 have h2:=setL_len b
 have:=l7All_ev (setL a) (setL b) (by omega) (by omega)
 rwa [← hasB_iff ha hb] at this
/-- The loop over the keys so far: is the set least? -/
theorem specKeys_in (l:List S68) (n:Int) (m:Int) (s:Int) (hs:isSet s) (Q:List (List Int)) (ql q:Int) (K:List Int) (hK:K.length≤10000) (hKs:∀ k∈K,isSet k) {r:List (List Int)} (b:Bool)
  (h1:(b && !(K.any fun k=>hasB s k))=true→Ev (fun k=>spec_l7Keys.l1 k l n (K.map setL++[setL s]) m Q ql (wrap64 (q + 1))) r) (h2:(b && !(K.any fun k=>hasB s k))=false→Ev (fun k=>spec_l7Keys.l1 k l n (K.map setL) m Q ql (wrap64 (q + 1))) r) :
  Ev (fun k=>spec_l7Keys.l2 k l n (K.map setL) m (setL s) b Q ql q (K.map setL) ((K.map setL).length:Int) 0) r:=by
 have loop:=loop_up (n:=K.length) (P:=fun i=>Ev (fun k=>spec_l7Keys.l2 k l n (K.map setL) m (setL s) (b && !((K.take i).any fun k=>hasB s k)) Q ql q (K.map setL) ((K.map setL).length:Int) (i:Int)) r) ?_ ?_
 ·have:=loop 0 (Nat.zero_le _)
  simpa using this
 ·refine Ev.succ ?_
  simp only [spec_l7Keys.l2]
  rw [List.take_length]
  refine Ev.neg (by simp) ?_
  cases hb:b && !(K.any fun k=>hasB s k) with
  | true=>exact Ev.pos rfl (Ev.pos (by simp;omega) (h1 hb))
  | false=>exact Ev.neg (by simp) (h2 hb)
 ·intro i hi ih
  refine Ev.succ ?_
  simp only [spec_l7Keys.l2]
  have hi':i < (K.map setL).length:=by simpa using hi
  rw [rdL hi',List.getElem_map,wrap_add (by omega) (by omega)]
  refine Ev.pos (by omega) (Ev.pos (by omega) (Ev.pos (by omega) ?_))
  have hk:=hKs _ (List.getElem_mem hi)
  have et:((K.take (i + 1)).any fun k=>hasB s k)=(((K.take i).any fun k=>hasB s k) || hasB s K[i]):=by rw [List.take_succ_eq_append_getElem hi,List.any_append];simp
  cases hb:b && !((K.take i).any fun k=>hasB s k) with
  | true =>
   refine Ev.pos rfl (Ev.bind (l7All_set hs hk) ?_)
   have:(b && !((K.take (i + 1)).any fun k=>hasB s k))=!(hasB s K[i]):=by
    rw [et,Bool.not_or,← Bool.and_assoc,hb,Bool.true_and]
   rw [this] at ih
   exact ih
  | false =>
   refine Ev.neg (by simp) ?_
   have:(b && !((K.take (i + 1)).any fun k=>hasB s k))=false:=by
    rw [et,Bool.not_or,← Bool.and_assoc,hb,Bool.false_and]
   rw [this] at ih
   exact ih
theorem keyStep_if (l:List S68) (n:Int) (K:List Int) (s:Int):keyStep l n K s=if (tells l n s && !(K.any fun k=>hasB s k))=true then K++[s] else K:=by
 unfold keyStep
 congr 1
 simp
theorem specKeys_row (l:List S68) (n:Nat) (hl:l.length≤1000) (h:∀ d∈l,depOk (n:Int) d) (hn:n≤6) (m:Int) (P:List Int) (hP:P.length≤1000) (hm:∀ s∈P,isSet s∧hasB (wholeI (n:Int)) s=true) {r:List (List Int)} (N:Nat) (hN:N≤9000) :
  ∀ (w i:Nat) (K:List Int),P.length - i≤w→i≤P.length→K.length≤N + i→(∀ k∈K,isSet k)→(Ev (fun k=>spec_l7Keys.l0 k l (n:Int) ((keysL l (n:Int) K (P.drop i)).map setL) (wrap64 (m + 1))) r) →
   Ev (fun k=>spec_l7Keys.l1 k l (n:Int) (K.map setL) m (P.map setL) ((P.map setL).length:Int) (i:Int)) r:=by
 have last:∀ (i:Nat) (K:List Int),¬ i < P.length→i≤P.length→(Ev (fun k=>spec_l7Keys.l0 k l (n:Int) ((keysL l (n:Int) K (P.drop i)).map setL) (wrap64 (m + 1))) r)→Ev (fun k=>spec_l7Keys.l1 k l (n:Int) (K.map setL) m (P.map setL) ((P.map setL).length:Int) (i:Int)) r:=fun i K hi hi2 hr=>by
  refine Ev.succ ?_
  simp only [spec_l7Keys.l1]
  rw [List.drop_eq_nil_of_le (by omega)] at hr
  exact Ev.neg (by simp;omega) hr
 intro w
 induction w with
 | zero=>exact fun i K h1 h2 _ _ hr=>last i K (by omega) h2 hr
 | succ w ih =>
  intro i K h1 h2 h3 hK hr
  by_cases hi:i < P.length
  case neg=>exact last i K hi h2 hr
  refine Ev.succ ?_
  simp only [spec_l7Keys.l1]
  have hi':i < (P.map setL).length:=by simpa using hi
  obtain ⟨hs,hw⟩:=hm _ (List.getElem_mem hi)
  rw [rdL hi',List.getElem_map]
  refine Ev.pos (by omega) (Ev.pos (by omega) (Ev.pos (by omega) (Ev.bind (l7Closure_ev l (n:Int) hl h (by omega) _ hs) ?_)))
  rw [tells_len hn h hs hw]
  rw [List.drop_eq_getElem_cons hi,keysL_cons,keyStep_if] at hr
  have hw1:wrap64 ((i:Int) + 1)=((i + 1:Nat):Int):=by rw [wrap_add (by omega) (by omega)];omega
  refine specKeys_in l (n:Int) m P[i] hs _ _ _ K (by omega) hK _ (fun hb=>?_) (fun hb=>?_)
  ·rw [hb,if_pos rfl] at hr
   rw [hw1]
   have:=ih (i + 1) (K++[P[i]]) (by omega) (by omega) (by simp;omega) (fun k hk=>by
    rcases List.mem_append.1 hk with hk | hk
    ·exact hK k hk
    ·obtain rfl:k=P[i]:=by simpa using hk
     exact hs) hr
   rw [List.map_append] at this
   exact this
  ·rw [hb,if_neg (by simp)] at hr
   rw [hw1]
   exact ih (i + 1) K (by omega) (by omega) (by omega) hK hr
theorem specKeys_ev (l:List S68) (n:Nat) (hl:l.length≤1000) (h:∀ d∈l,depOk (n:Int) d) (hn:n≤6):Ev (fun k=>spec_l7Keys.f k l (n:Int)) ((keysI l (n:Int)).map setL):=by
 have hparts:partsS (wholeI (n:Int))=(allQ n).map setI:=parts_eq (whole_set hn).1 (all_dec ⟨n,by omega⟩)
 unfold keysI
 rw [hparts]
 unfold spec_l7Keys.f
 have loop:=loop_up (n:=n + 1) (P:=fun m=>∀ K:List Int,K.length≤1000 * m→(∀ k∈K,isSet k)→keysL l (n:Int) K ((((List.range (n + 1)).drop m).flatMap (subsQ n)).map setI)=keysL l (n:Int) [] ((allQ n).map setI)→Ev (fun k=>spec_l7Keys.l0 k l (n:Int) (K.map setL) (m:Int)) ((keysL l (n:Int) [] ((allQ n).map setI)).map setL)) ?_ ?_
 ·exact loop 0 (Nat.zero_le _) [] (by simp) (fun k hk=>by cases hk) rfl
 ·intro K _ _ hk
  refine Ev.succ ?_
  simp only [spec_l7Keys.l0]
  rw [← hk,List.drop_eq_nil_of_le (by simp)]
  exact Ev.neg (by omega) (Ev.const rfl)
 ·intro m hm ih K hKl hK hk
  obtain ⟨s1,s2,s3⟩:=subs_ok hn (by omega:m≤n)
  refine Ev.succ ?_
  simp only [spec_l7Keys.l0]
  refine Ev.pos (by omega) (Ev.bind s1 ?_)
  have e:subsQ n m=((subsQ n m).map setI).map setL:=by
   rw [List.map_map]
   have:(subsQ n m).map (setL ∘ setI)=(subsQ n m).map id:=List.map_congr_left fun x hx=>(s3 x hx).1.symm
   rw [this,List.map_id]
  have hd:(List.range (n + 1)).drop m=m :: (List.range (n + 1)).drop (m + 1):=by
   rw [List.drop_eq_getElem_cons (by simpa using hm)];simp
  rw [hd,List.flatMap_cons,List.map_append,keysL_app] at hk
  rw [e]
  have:=specKeys_row l n hl h hn (m:Int) ((subsQ n m).map setI) (by simpa using s2) (fun s hs=>by
   simp only [List.mem_map] at hs
   obtain ⟨x,hx,rfl⟩:=hs
   exact (s3 x hx).2) (r:=(keysL l (n:Int) [] ((allQ n).map setI)).map setL) (1000 * m) (by omega) _ 0 K (Nat.le_refl _) (Nat.zero_le _) (by omega) hK ?_
  ·exact this
  ·rw [List.drop_zero,wrap_add (by omega) (by omega)]
   have hlen:=keysL_len l (n:Int) ((subsQ n m).map setI) K
   refine ih _ (by simp at hlen;omega) (fun k hk2=>?_) hk
   rcases keysL_mem l (n:Int) _ _ k hk2 with h1 | ⟨h1,_⟩
   ·exact hK k h1
   ·simp only [List.mem_map] at h1
    obtain ⟨x,hx,rfl⟩:=h1
    exact (s3 x hx).2.1
theorem implKeys_ev (l:List S68) (n:Nat) (hl:shortD l) (g:depsOk l (n:Int)):Ev (fun k=>impl_KeysOf.f k l (n:Int)) ((keysI l (n:Int)).map setL,true):=by
 have g':=g
 obtain ⟨g1,g2,g3,g4⟩:=g
 have hn:n≤6:=by omega
 obtain ⟨w1,_⟩:=whole_set hn
 unfold impl_KeysOf.f
 refine Ev.bind (implGood_ev l (n:Int) hl) (Ev.pos (tell_yes g') (Ev.bind (Ev.const whole_val) (Ev.bind (partsOf_ev w1) ?_)))
 have:=implKeys_loop l n (by omega) g1 hn (partsS (wholeI (n:Int))) (parts_len w1) (fun s hs=>(parts_mem w1 s hs).1) _ 0 [] (Nat.le_refl _) (Nat.zero_le _) (by simp)
 exact this
theorem bothKeys (l:List S68) (c:Int) (hl:shortD l):∃ r:List (List Int) × Bool,r=(if tell (depsOk l c)=true then ((keysI l c).map setL,true) else ([],false))∧Ev (fun k=>spec_KeysOf.f k l c) r∧Ev (fun k=>impl_KeysOf.f k l c) r:=by
 refine ⟨_,rfl,?_⟩
 by_cases g:depsOk l c
 case neg =>
  rw [tell_no g,if_neg (by simp)]
  unfold spec_KeysOf.f impl_KeysOf.f
  exact ⟨Ev.bind (specGood_ev l c hl) (Ev.neg (by rw [tell_no g];simp) (Ev.const rfl)),Ev.bind (implGood_ev l c hl) (Ev.neg (by rw [tell_no g];simp) (Ev.const rfl))⟩
 rw [tell_yes g,if_pos rfl]
 have g':=g
 obtain ⟨g1,g2,g3,g4⟩:=g
 obtain ⟨n,rfl⟩:∃ n:Nat,c=(n:Int):=⟨c.toNat,by omega⟩
 refine ⟨?_,implKeys_ev l n hl g'⟩
 unfold spec_KeysOf.f
 exact Ev.bind (specGood_ev l (n:Int) hl) (Ev.pos (tell_yes g') (Ev.bind (specKeys_ev l n (by omega) g1 (by omega)) (Ev.const rfl)))
theorem sum_le {L:List (List Int)} {b:Nat}:(∀ x∈L,x.length≤b)→(L.map List.length).sum≤b * L.length:=by
 induction L with
 | nil=>intro _;simp
 | cons a L ih =>
  intro h
  have h1:=h a List.mem_cons_self
  have h2:=ih fun x hx=>h x (List.mem_cons_of_mem _ hx)
  rw [List.map_cons,List.sum_cons,List.length_cons,Nat.mul_add]
  omega
theorem keys_small (l:List S68) (c:Int) (hc:1≤c∧c≤6):((keysI l c).map setL).length≤1000∧∀ x∈(keysI l c).map setL,x.length≤6:=by
 obtain ⟨n,rfl⟩:∃ n:Nat,c=(n:Int):=⟨c.toNat,by omega⟩
 obtain ⟨w1,_⟩:=whole_set (by omega:n≤6)
 constructor
 ·have h1:=keysL_len l (n:Int) (partsS (wholeI (n:Int))) []
  have h2:=parts_len w1
  rw [List.length_map];unfold keysI
  simp at h1;omega
 ·intro x hx
  simp only [List.mem_map] at hx
  obtain ⟨s,_,rfl⟩:=hx
  exact setL_len s
theorem FnExactKeysOf : laws_FnExactKeysOf.Pure:=by
 intro l0 c w0 w1 hz
 have hl:=(okDependS_cv hz).1
 obtain ⟨r,hr,h1,h2⟩:=bothKeys (cvDependS l0) c hl
 obtain ⟨K1,k1⟩:=h1
 obtain ⟨K2,k2⟩:=h2
 refine ⟨K1 + K2,r,k1 _ (by omega),k2 _ (by omega),?_⟩
 rw [hr]
 by_cases g:depsOk (cvDependS l0) c
 ·rw [tell_yes g,if_pos rfl]
  obtain ⟨s1,s2⟩:=keys_small (cvDependS l0) c ⟨g.2.1,g.2.2.1⟩
  have:=sum_le s2
  exact ⟨by show List.length (List.map setL _)≤_;omega,fun x hx=>by have:=s2 x hx;omega,by show List.sum (List.map List.length (List.map setL _))≤_;omega⟩
 ·rw [tell_no g,if_neg (by simp)]
  exact ⟨by simp,fun x hx=>(by cases hx),by simp⟩
end Go.Proofs.Ytchbcdafomhlaaa.Pure
