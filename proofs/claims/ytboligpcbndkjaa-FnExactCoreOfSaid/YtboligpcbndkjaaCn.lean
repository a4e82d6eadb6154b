/-
 Rows whose elements lead to rows that are shared: cloned (slices.Clone),and one element cut out (slices.Delete): words of this claim's own,over any program.
-/
import Derived.Test.YtboligpcbndkjaaWWords
import Derived.Test.YtboligpcbndkjaaWMore
import Derived.Test.YtboligpcbndkjaaWN
import Derived.Test.YtboligpcbndkjaaWNEv
import Derived.Shelf.SlicesE.Clone
namespace Go.Proofs.YtboligpcbndkjaaW.PrintMore
open Go.RowKit Go.Shelf Go.Lib Go.Proofs.YtboligpcbndkjaaW.PrintWords
theorem clone_N {P:Program} {ρ:Ren} {α:Type} (d:Kd α) (L:Go.Proofs.SlLaysE0.n41 P ρ) (i0:TypeInfo) (z:Value) (bytes:Nat) (hi:P.info? (ρ.t 23)=some i0) (hz0:i0.zero=some z) (hz1:i0.size=d.sz) (hz2:i0.bytes=bytes) (hzs:z.cells.size=d.sz) (hsz:0<d.sz) (hby:0<bytes)
  (z23:∀ w,(Go.sizeOf (ρ.t 23)).run P w=.ok d.sz w) {A:Option Addr} {c:Nat} {xs:List α} {w:World} {ok:Nat→Prop} (hF:Kd.F d w ok A xs.length xs) (hp:0<xs.length) (hl:xs.length*bytes≤140737488355328) :
  Calls P (ρ.f 41) #[.slice A xs.length c] w fun e w'=>∃ v0,e=.returned v0∧Kd.N d (ρ.t 23) w' w.heap.size (fun k=>ok k∧k<w.heap.size∨w.heap.size≤k) v0 xs∧Below w.heap.size w w':=by
 have fin:∀ (b off:Nat) (inner:List Value),Reps (fun x c=>Kd.FK d w ok x c) d.sz xs inner→(∀ j u,inner[j]?=some u→w.cell? ⟨b,off+j,none⟩=some u) →
   Calls P (ρ.f 41) #[.slice (some ⟨b,off,none⟩) xs.length c] w fun e w'=>∃ v0,e=.returned v0∧Kd.N d (ρ.t 23) w' w.heap.size (fun k=>ok k∧k<w.heap.size∨w.heap.size≤k) v0 xs∧Below w.heap.size w w':=fun b off inner hr hc=>by
  have hR:∀ x c,Kd.FK d w ok x c→c.length=d.sz∧∀ u∈c,u.oneCell'=true:=fun x c h=>⟨d.K_len (Kd.FK_now h),d.K_one (Kd.FK_now h)⟩
  have h1:∀ u∈inner,u.oneCell'=true:=fun u hu=>by
   obtain ⟨q,hq,rfl⟩:=List.mem_iff_getElem.1 hu
   have hql:q / d.sz<xs.length:=by
    rw [Nat.div_lt_iff_lt_mul hsz,← hr.1]
    exact hq
   refine (hR _ _ (hr.2 (q / d.sz) _ (List.getElem?_eq_getElem hql))).2 _ ?_
   rw [List.mem_iff_getElem?]
   refine ⟨q % d.sz,?_⟩
   rw [List.getElem?_take,if_pos (Nat.mod_lt _ hsz),List.getElem?_drop,Nat.mul_comm,Nat.div_add_mod,List.getElem?_eq_getElem hq]
  have hn:xs.length≤maxLen:=by
   have:=Nat.le_mul_of_pos_right xs.length hby
   simp only [maxLen]
   omega
  refine (Go.Proofs.AnyE.slices_Clone L i0 z d.sz bytes hi hz0 hz1 hz2 hzs hsz z23 b off xs.length c inner w hr.1 hn hl hc h1).mono ?_
  rintro e w' ⟨v,rfl,ho,_,hb⟩
  have hbs:∀ k,v.ownBlock=some k→w.heap.size≤k:=own_base ho
  refine ⟨v,rfl,⟨fun k hk=>.inr (hbs k hk),Kd.chunks d.sz xs.length inner,Kd.chunks_length _ _ _,⟨fun k hk=>hk.symm,inner,by rw [Kd.chunks_length];exact ho,Kd.reps_raw hr hR⟩,fun j x c hx hcj=>?_⟩,hb⟩
  rw [Kd.chunks_get hcj]
  refine Kd.FK_mono (Kd.FK_below (Kd.FK_bound (hr.2 j x hx)) hb) (fun k hk=>⟨.inl hk,fun e=>?_⟩)
  have:=hbs k e.symm
  have:=hk.2
  omega
 obtain ⟨ad,rfl,_⟩:=(Kd.F_rows hF).2.2 hp
 obtain ⟨inner,hr,hc⟩:=ReadsRow.inner_ (Kd.F_rows hF)
 obtain ⟨b,off,spot⟩:=ad
 have hlt:0<inner.length:=by
  rw [hr.1]
  exact Nat.mul_pos hp hsz
 cases spot with
 | none=>exact fin b off inner hr (fun j u hu=>by rw [← Addr.add_lit];exact hc j u hu)
 | some s =>
  have hc0:=hc 0 _ (List.getElem?_eq_getElem hlt)
  simp [World.cell?,Addr.add] at hc0
  split at hc0<;>cases hc0
/-- One element cut out of a row of one's own: from the cells to the row. -/
theorem del_N {P:Program} {α:Type} (d:Kd α) {f:FuncId} {e:Nat} {w:World} {base:Nat} {ok:Nat→Prop} {A:Option Addr} {c:Nat} {xs:List α} {i:Nat} {rest:Array Value}
  (raw:∀ (g:Nat) (inner:List Value),w.ownsRow base e d.sz (.slice (some ⟨g,0,none⟩) xs.length c) xs.length inner→(∀ u∈inner,u.oneCell'=true) →
   Calls P f (#[.slice (some ⟨g,0,none⟩) xs.length c]++rest) w fun e_ w'=>e_=.returned (.slice (some ⟨g,0,none⟩) (xs.length - 1) c)∧w'.ownsRow base e d.sz (.slice (some ⟨g,0,none⟩) (xs.length - 1) c) (xs.length - 1) (inner.take (i*d.sz)++inner.drop ((i+1)*d.sz))∧w.grownBy w' (some g))
  (h:Kd.N d e w base ok (.slice A xs.length c) xs) (hi:i<xs.length) (hsz:0<d.sz) :
  Calls P f (#[.slice A xs.length c]++rest) w fun e_ w'=>∃ v0,e_=.returned v0∧Kd.N d e w' base ok v0 (xs.eraseIdx i)∧w.grownBy w' (Value.slice A xs.length c).ownBlock∧v0.ownBlock=(Value.slice A xs.length c).ownBlock:=by
 obtain ⟨g,cap,hv,_⟩:=Kd.N_form h (by omega)
 injection hv with hA _ hc
 subst hA;subst hc
 obtain ⟨hown,rows,hl,⟨_,inner,ho,hr⟩,hf⟩:=h
 rw [hl] at ho
 have h1:∀ u∈inner,u.oneCell'=true:=fun u hu=>by
  obtain ⟨q,hq,rfl⟩:=List.mem_iff_getElem.1 hu
  have hql:q / d.sz<rows.length:=by
   rw [Nat.div_lt_iff_lt_mul hsz]
   have:=hr.1
   simp only [Kd.raw] at this
   rw [← this]
   exact hq
  refine (hr.2 (q / d.sz) _ (List.getElem?_eq_getElem hql)).2.2 _ ?_
  rw [List.mem_iff_getElem?]
  refine ⟨q % d.sz,?_⟩
  rw [show (Kd.raw d.sz).sz=d.sz from rfl,List.getElem?_take,if_pos (Nat.mod_lt _ hsz),List.getElem?_drop,Nat.mul_comm,Nat.div_add_mod,List.getElem?_eq_getElem hq]
 refine (raw g inner ho h1).mono ?_
 rintro e_ w' ⟨rfl,ho2,hg⟩
 have hel:(rows.eraseIdx i).length=xs.length - 1:=by rw [List.length_eraseIdx_of_lt (by omega),hl]
 refine ⟨_,rfl,Kd.N_erased (W:=w) (rows:=rows) hown hl hf ⟨fun _ _=>trivial,_,by rw [hel];exact ho2,?_⟩ hg,by simpa [Value.ownBlock] using hg,by simp [Value.ownBlock]⟩
 rw [List.eraseIdx_eq_take_drop_succ]
 exact Kd.reps_append (Kd.reps_take hr (by omega)) (Kd.reps_drop hr)
theorem R_int_grown {k:IntKind} {e base:Nat} {ok:Nat→Prop} {w w1:World} {v:Value} {xs:List Int} {row:Option Nat} (h:(Kd.int k).R e w base ok v xs) (hg:w.grownBy w1 row) (hne:∀ b,v.ownBlock=some b→some b≠row):(Kd.int k).R e w1 base ok v xs:=by
 obtain ⟨h0,inner,ho,hr⟩:=h
 refine ⟨h0,inner,⟨ho.1,?_⟩,hr⟩
 rcases ho.2 with h2 | ⟨g,cap,cur,rfl,hb,hh,r⟩
 ·exact .inl h2
 ·exact .inr ⟨g,cap,cur,rfl,hb,(hg.block g (blk_lt hh) (hne g (by simp [Value.ownBlock]))).trans hh,r⟩
end Go.Proofs.YtboligpcbndkjaaW.PrintMore
