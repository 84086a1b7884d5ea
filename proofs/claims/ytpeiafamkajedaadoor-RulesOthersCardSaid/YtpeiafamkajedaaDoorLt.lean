/-
  A kind of the print's for slices that limbs.trim has cut: only read, each in a block of its own.
-/
import Derived.Test.YtpeiafamkajedaaDoorLa
namespace Go.Proofs.YtpeiafamkajedaaDoor.FAll
open Go.RowKit Go.Proofs.YtpeiafamkajedaaDoorW.PrintWords Go.Proofs.YtpeiafamkajedaaDoorW.PrintLast Go.Proofs.YtpeiafamkajedaaDoorW.PrintMore
set_option linter.unusedVariables false
set_option linter.unusedSimpArgs false

theorem C_block {w w1 : World} {A : Option Addr} {n : Nat} {xs : List Int} (h : Kd.C (Kd.int .u32) w A n xs) (hm : ∀ ad, A = some ad → w1.heap[ad.block]? = w.heap[ad.block]?) : Kd.C (Kd.int .u32) w1 A n xs := by
  refine ⟨h.1, h.2.1, fun h0 => ?_⟩
  obtain ⟨ad, e, hc⟩ := h.2.2 h0
  refine ⟨ad, e, fun j p hp => ?_⟩
  obtain ⟨c, h1, h2, h3⟩ := hc j p hp
  refine ⟨c, h1, h2, fun i u hu => (World.cell?_of_block (w := w) (w' := w1) (a := ad.add (j * 1 + i)) ?_).trans (h3 i u hu)⟩
  have eb : (ad.add (j * 1 + i)).block = ad.block := by unfold Addr.add; split <;> rfl
  rw [eb]
  exact hm ad e

def trimmed : Kd (List Int) where
  sz := 1
  E := [96]
  K w x cs := ∃ A k, cs = [.slice A x.length k] ∧ x.length ≤ k ∧ Kd.C (Kd.int .u32) w A x.length x
  M w base ok x cs := ∃ A k, cs = [.slice A x.length k] ∧ k = x.length ∧ Kd.C (Kd.int .u32) w A x.length x ∧ ∀ ad, A = some ad → ok ad.block ∧ base ≤ ad.block ∧ ad.block < w.heap.size ∧ (∃ cells, w.heap[ad.block]? = some (.cells cells 96 (0, 0))) ∧ ad = ⟨ad.block, 0, none⟩
  K_len := by rintro w x cs ⟨A, k, rfl, _⟩; rfl
  K_one := by
    rintro w x cs ⟨A, k, rfl, _⟩ u hu
    obtain rfl : u = .slice A x.length k := by simpa using hu
    rfl
  K_below := by rintro w w1 x cs hb ⟨A, k, rfl, h1, h2⟩; exact ⟨A, k, rfl, h1, Kd.C_below h2 hb⟩
  K_of_M := by rintro w base ok x cs ⟨A, k, rfl, h1, h2, _⟩; exact ⟨A, k, rfl, Nat.le_of_eq h1.symm, h2⟩
  M_mono := by rintro w base ok ok' x cs h ⟨A, k, rfl, h1, h2, h3⟩; exact ⟨A, k, rfl, h1, h2, fun ad e => ⟨h _ (h3 ad e).1, (h3 ad e).2⟩⟩
  M_bound := by
    rintro w base ok x cs ⟨A, k, rfl, h1, h2, h3⟩
    refine ⟨A, k, rfl, h1, h2, fun ad e => ?_⟩
    obtain ⟨g1, g2, g3, ⟨cells, g4⟩, g6⟩ := h3 ad e
    exact ⟨⟨g1, g2, g3, _, List.mem_cons_self, cells, g4⟩, g2, g3, ⟨cells, g4⟩, g6⟩
  M_move := by
    rintro w w1 base ok x cs hm ⟨A, k, rfl, h1, h2, h3⟩
    refine ⟨A, k, rfl, h1, C_block h2 (fun ad e => hm _ (h3 ad e).1), fun ad e => ?_⟩
    obtain ⟨g1, g2, g3, ⟨cells, g4⟩, g6⟩ := h3 ad e
    have g5 := (hm _ g1).trans g4
    exact ⟨g1, g2, blk_lt g5, ⟨cells, g5⟩, g6⟩
  M_lower := by rintro w base base' ok x cs hb ⟨A, k, rfl, h1, h2, h3⟩; exact ⟨A, k, rfl, h1, h2, fun ad e => ⟨(h3 ad e).1, Nat.le_trans hb (h3 ad e).2.1, (h3 ad e).2.2⟩⟩
/-- What came back from limbs is of this kind. -/
theorem trimmed_mk {w w' : World} {A : Option Addr} {k : Nat} {x : List Int} (h1 : k = x.length) (h2 : Kd.C (Kd.int .u32) w' A x.length x) (h3 : WhereAt w w' A) : trimmed.M w' w.heap.size (fun _ => True) x [.slice A x.length k] :=
  ⟨A, k, rfl, h1, h2, fun ad e => ⟨trivial, h3 ad e⟩⟩
end Go.Proofs.YtpeiafamkajedaaDoor.FAll
