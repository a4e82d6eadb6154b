-- words that the kit's print lays beside a proof: only what this claim uses
import Derived.Test.YtboligpcbndkjaaWN
namespace Go.Proofs.YtboligpcbndkjaaW.PrintWords
open Go.RowKit
namespace Kd
section
variable {α : Type} {d : Kd α} {e base n cap g : Nat} {ok ok' okp : Nat → Prop} {w w1 W : World} {v v1 : Value} {xs ys : List α}
theorem N_erased {rows:List (List Value)} {k:Nat} (h0:∀ k,(Value.slice (some ⟨g,0,none⟩) n cap).ownBlock=some k→ok k) (hl:rows.length=xs.length) (hf:∀ (j:Nat) (x:α) (c:List Value),xs[j]?=some x→rows[j]?=some c→FK d W (fun k=>ok k∧some k≠(Value.slice (some ⟨g,0,none⟩) n cap).ownBlock) x c)
  {n':Nat} (hR:(raw d.sz).R e w1 base (fun _=>True) (.slice (some ⟨g,0,none⟩) n' cap) (rows.eraseIdx k)) (hg:W.grownBy w1 (some g)):N d e w1 base ok (.slice (some ⟨g,0,none⟩) n' cap) (xs.eraseIdx k):=by
 have hgo:∀ m,some g=(Value.slice (some ⟨g,0,none⟩) m cap).ownBlock:=fun m=>by simp [Value.ownBlock]
 refine ⟨fun b hb=>h0 b (by rw [← hgo] at hb ⊢;exact hb),rows.eraseIdx k,by rw [List.length_eraseIdx,List.length_eraseIdx,hl],raw_tight hR,fun j x c hx hc=>?_⟩
 rw [List.getElem?_eraseIdx] at hx hc
 have key:∀ j',xs[j']?=some x→rows[j']?=some c→FK d w1 (fun k=>ok k∧some k≠(Value.slice (some ⟨g,0,none⟩) n' cap).ownBlock) x c:=fun j' h1 h2 =>
  FK_mono (FK_step (hf j' x c h1 h2) (fun b hb hlt=>hg.block b hlt (by rw [hgo n];exact hb.2))) (fun b hb=>⟨hb.1,by rw [← hgo];rw [← hgo] at hb;exact hb.2⟩)
 by_cases hjk:j<k
 ·rw [if_pos hjk] at hx hc
  exact key _ hx hc
 ·rw [if_neg hjk] at hx hc
  exact key _ hx hc
end
end Kd
end Go.Proofs.YtboligpcbndkjaaW.PrintWords
