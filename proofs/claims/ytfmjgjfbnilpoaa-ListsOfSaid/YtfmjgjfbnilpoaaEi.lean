/-
  Eight cells written one by one (a struct of eight fields copied into its box): words beside the print's.
-/
import Derived.Test.YtfmjgjfbnilpoaaWz
namespace Go.Proofs.YtfmjgjfbnilpoaaW.PrintWords
open Go.RowKit
theorem blk_far8 {w : World} {g b : Nat} {t : TypeId} {cs : Array Value} (h : w.heap[g]? = some (.cells cs t (0, 0))) (hp : g ≠ b) (u0 u1 u2 u3 u4 u5 u6 u7 : Value) : ((((((((w.setCell ⟨b, 0, none⟩ u0).setCell ⟨b, 1, none⟩ u1).setCell ⟨b, 2, none⟩ u2).setCell ⟨b, 3, none⟩ u3).setCell ⟨b, 4, none⟩ u4).setCell ⟨b, 5, none⟩ u5).setCell ⟨b, 6, none⟩ u6).setCell ⟨b, 7, none⟩ u7).heap[g]? = some (.cells cs t (0, 0)) := (blk_far (blk_far (blk_far (blk_far (blk_far (blk_far (blk_far (blk_far h hp u0) hp u1) hp u2) hp u3) hp u4) hp u5) hp u6) hp u7)
theorem blk_put8 {w : World} {g : Nat} {t : TypeId} {c0 c1 c2 c3 c4 c5 c6 c7 : Value} (h : w.heap[g]? = some (.cells #[c0, c1, c2, c3, c4, c5, c6, c7] t (0, 0))) (u0 u1 u2 u3 u4 u5 u6 u7 : Value) : ((((((((w.setCell ⟨g, 0, none⟩ u0).setCell ⟨g, 1, none⟩ u1).setCell ⟨g, 2, none⟩ u2).setCell ⟨g, 3, none⟩ u3).setCell ⟨g, 4, none⟩ u4).setCell ⟨g, 5, none⟩ u5).setCell ⟨g, 6, none⟩ u6).setCell ⟨g, 7, none⟩ u7).heap[g]? = some (.cells #[u0, u1, u2, u3, u4, u5, u6, u7] t (0, 0)) := by
  have h0 := blk_put (cs' := #[u0, c1, c2, c3, c4, c5, c6, c7]) h 0 u0 (by simp)
  have h1 := blk_put (cs' := #[u0, u1, c2, c3, c4, c5, c6, c7]) h0 1 u1 (by simp)
  have h2 := blk_put (cs' := #[u0, u1, u2, c3, c4, c5, c6, c7]) h1 2 u2 (by simp)
  have h3 := blk_put (cs' := #[u0, u1, u2, u3, c4, c5, c6, c7]) h2 3 u3 (by simp)
  have h4 := blk_put (cs' := #[u0, u1, u2, u3, u4, c5, c6, c7]) h3 4 u4 (by simp)
  have h5 := blk_put (cs' := #[u0, u1, u2, u3, u4, u5, c6, c7]) h4 5 u5 (by simp)
  have h6 := blk_put (cs' := #[u0, u1, u2, u3, u4, u5, u6, c7]) h5 6 u6 (by simp)
  have h7 := blk_put (cs' := #[u0, u1, u2, u3, u4, u5, u6, u7]) h6 7 u7 (by simp)
  exact h7
theorem cell_far8 {w : World} {g : Nat} {a : Addr} (hp : a.block ≠ g) {u0 u1 u2 u3 u4 u5 u6 u7 : Value} : ((((((((w.setCell ⟨g, 0, none⟩ u0).setCell ⟨g, 1, none⟩ u1).setCell ⟨g, 2, none⟩ u2).setCell ⟨g, 3, none⟩ u3).setCell ⟨g, 4, none⟩ u4).setCell ⟨g, 5, none⟩ u5).setCell ⟨g, 6, none⟩ u6).setCell ⟨g, 7, none⟩ u7).cell? a = w.cell? a := by
  rw [cell_far (p := ⟨g, 7, none⟩) hp, cell_far (p := ⟨g, 6, none⟩) hp, cell_far (p := ⟨g, 5, none⟩) hp, cell_far (p := ⟨g, 4, none⟩) hp, cell_far (p := ⟨g, 3, none⟩) hp, cell_far (p := ⟨g, 2, none⟩) hp, cell_far (p := ⟨g, 1, none⟩) hp, cell_far (p := ⟨g, 0, none⟩) hp]
namespace Kd
theorem R_far8 {α : Type} {d : Kd α} {e : Nat} {w : World} {base : Nat} {ok : Nat → Prop} {v : Value} {xs : List α} (h : d.R e w base ok v xs) {b : Nat} (hok : ∀ k, ok k → k ≠ b) (u0 u1 u2 u3 u4 u5 u6 u7 : Value) : d.R e ((((((((w.setCell ⟨b, 0, none⟩ u0).setCell ⟨b, 1, none⟩ u1).setCell ⟨b, 2, none⟩ u2).setCell ⟨b, 3, none⟩ u3).setCell ⟨b, 4, none⟩ u4).setCell ⟨b, 5, none⟩ u5).setCell ⟨b, 6, none⟩ u6).setCell ⟨b, 7, none⟩ u7) base ok v xs := (R_far (R_far (R_far (R_far (R_far (R_far (R_far (R_far h hok u0) hok u1) hok u2) hok u3) hok u4) hok u5) hok u6) hok u7)
end Kd
end Go.Proofs.YtfmjgjfbnilpoaaW.PrintWords
