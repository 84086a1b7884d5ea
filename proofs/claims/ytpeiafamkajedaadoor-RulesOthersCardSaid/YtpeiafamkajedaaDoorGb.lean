/-
  thicketlaw08.begins: a small ensemble is right, and one without a name is not.
-/
import Derived.Test.YtpeiafamkajedaaDoorRv
namespace Go.Proofs.YtpeiafamkajedaaDoor.FAll
open Go.RowKit Go.Shelf Go.Maps Go.WideMaps Go.Proofs.YtpeiafamkajedaaDoorW.PrintWords Go.Proofs.YtpeiafamkajedaaDoorW.PrintLast Go.Proofs.YtpeiafamkajedaaDoorW.PrintMore
attribute [local go_sem] fstore_walk
set_option linter.unusedVariables false
set_option linter.unusedSimpArgs false
def smallN : ByteArray := ⟨#[109]⟩
def smallF : List ByteArray := [⟨#[97]⟩]
def smallB : List Int := [0]
def leaf5 : S65 := ⟨1, 5, 0, 0, [], 0, 0, 0⟩
def smallT : List S37 := [⟨0, [leaf5]⟩]
theorem sizes_small : ∀ s ∈ smallF, s.size ≤ maxLen := by
  intro s hs
  obtain rfl : s = ⟨#[97]⟩ := by simpa [smallF] using hs
  show 1 ≤ maxLen
  unfold maxLen
  omega
/-- What Shape answers for a leaf alone. -/
def sh0 : S37 → Int × Int := fun _ => (0, 0)
theorem shape_leaf : trees_Shape.f 20 0 [leaf5] = some (0, 0) := by decide +kernel
theorem shape_small : ∀ y ∈ smallT, ∃ k, 1 ≤ y.f1.length → trees_Shape.f k y.f0 y.f1 = some ((sh0 y).1, (sh0 y).2) := by
  intro y hy
  obtain rfl : y = ⟨0, [leaf5]⟩ := by simpa [smallT] using hy
  exact ⟨20, fun _ => shape_leaf⟩
theorem check_small : checkV sh0 smallN smallF 1 smallB smallT = (0, 0, 0) := by decide +kernel
theorem check_unnamed : checkV sh0 (⟨#[]⟩ : ByteArray) smallF 1 smallB smallT = (1, -1, -1) := by decide +kernel
set_option maxHeartbeats 8000000 in
theorem small_any (w : World) : Calls Tryd.prog 12 #[] w fun e w' => ∃ A1 c1 A3 c3 A4 c4, e = .returned (.agg #[.string smallN, .slice A1 smallF.length c1, .int .i64 1, .slice A3 smallB.length c3, .slice A4 smallT.length c4]) ∧ Kd.C Kd.string w' A1 smallF.length smallF ∧ smallF.length ≤ c1 ∧ Kd.C (Kd.int .i64) w' A3 smallB.length smallB ∧ smallB.length ≤ c3 ∧ Kd.C k37 w' A4 smallT.length smallT ∧ smallT.length ≤ c4 ∧ Below w.heap.size w w' := by
  refine (thicketlaw08_small.calls smallN smallF 1 smallB smallT w rfl).mono ?_
  rintro e w' ⟨v1, v3, v4, rfl, R1, R3, N4, hb⟩
  obtain ⟨A1, c1, rfl, l1, g1⟩ := Kd.R_reads R1
  obtain ⟨A3, c3, rfl, l3, g3⟩ := Kd.R_reads R3
  obtain ⟨A4, c4, rfl⟩ := Kd.N_slice N4
  obtain ⟨_, l4, g4⟩ := Kd.N_reads' N4
  exact ⟨A1, c1, A3, c3, A4, c4, rfl, g1, l1, g3, l3, g4, l4, hb⟩
theorem largest_small : ∃ k, rules_Largest.f k 0 [leaf5] = some 5 := ⟨10, by decide +kernel⟩
set_option maxHeartbeats 16000000 in
set_option maxRecDepth 100000 in
theorem begins.calls (w : World) (htab : Aside0 (Tab w)) : Calls Tryd.prog 5 #[] w fun e w' => e = .returned (.bool true) ∧ Below w.heap.size w w' := by
  have HB := Aside0.mk (Below.refl w.heap.size w)
  go_enter Tryd.func5, Tryd.ntmps5
  go_wp2_with (fail)
  refine (small_any _).mono ?_
  rintro e w1 ⟨A1, c1, A3, c3, A4, c4, rfl, g1, l1, g3, l3, g4, l4, hb⟩
  have P1 := Aside0.mk g1
  have P3 := Aside0.mk g3
  have P4 := Aside0.mk g4
  have n0_ := Aside0.mk (below_step (kB0 HB) hb)
  clear HB g1 l1 g3 l3 g4 l4 hb
  have HB := n0_
  clear n0_
  go_wp2_with (fail)
  refine (small_any _).mono ?_
  rintro e w2 ⟨B1, d1, B3, d3, B4, d4, rfl, g1, l1, g3, l3, g4, l4, hb⟩
  have Q1 := Aside0.mk g1
  have Q3 := Aside0.mk g3
  have Q4 := Aside0.mk g4
  have HB1 := Aside0.mk (below_step (below_alloc (Below.refl w1.heap.size w1) _) hb)
  have Ba := Aside0.mk (blk_below (blk_new w1 (.cells #[.string smallN, .slice A1 smallF.length c1, .int .i64 1, .slice A3 smallB.length c3, .slice A4 smallT.length c4] 26 (0, 0))) hb)
  have n0_ := Aside0.mk (below_step (kB0 HB) hb)
  clear HB g1 l1 g3 l3 g4 l4 hb
  have HB := n0_
  have HB2 := Aside0.mk (Below.refl w2.heap.size w2)
  clear n0_
  have ha := fun o => blk5 (w := w2.alloc o) (blk_alloc Ba.out o)
  go_wp2_with (fail)
  refine (rules_Check.calls smallN A1 c1 smallF 1 A3 c3 smallB A4 c4 smallT sh0 _ ⟨Kd.C_below P1.out (kB0 HB1)⟩ ⟨sizes_small⟩ ⟨Kd.C_below P3.out (kB0 HB1)⟩ ⟨Kd.C_below P4.out (kB0 HB1)⟩ ⟨tab_below htab.out (kB0 HB)⟩ ⟨shape_small⟩ 0 0 0 ⟨check_small⟩).mono ?_
  rintro e w3 ⟨rfl, hb⟩
  have Bb := Aside0.mk (blk_below (blk_new w2 (.cells #[.string (⟨#[]⟩ : ByteArray), .slice B1 smallF.length d1, .int .i64 1, .slice B3 smallB.length d3, .slice B4 smallT.length d4] 26 (0, 0))) hb)
  have k1_ := Aside0.mk (below_step (below_alloc HB1.out _) hb)
  have k2_ := Aside0.mk (below_step (below_alloc HB2.out _) hb)
  have m1_ := Aside0.mk (blk_below (blk_alloc Ba.out _) hb)
  have n0_ := Aside0.mk (below_step (kB0 HB) hb)
  clear HB HB1 HB2 Ba ha hb
  have HB := n0_
  have HB1 := k1_
  have HB2 := k2_
  have Ba := m1_
  clear n0_ k1_ k2_ m1_
  have ha := blk5 (w := w3) Ba.out
  go_wp2_with (fail)
  refine (rules_Valid.calls smallN A1 c1 smallF 1 A3 c3 smallB A4 c4 smallT sh0 _ ⟨Kd.C_below P1.out (kB0 HB1)⟩ ⟨sizes_small⟩ ⟨Kd.C_below P3.out (kB0 HB1)⟩ ⟨Kd.C_below P4.out (kB0 HB1)⟩ ⟨tab_below htab.out (kB0 HB)⟩ ⟨shape_small⟩ 0 0 0 ⟨check_small⟩).mono ?_
  rintro e w4 ⟨rfl, hb⟩
  have k1_ := Aside0.mk (below_step (kB0 HB1) hb)
  have k2_ := Aside0.mk (below_step (kB0 HB2) hb)
  have ma_ := Aside0.mk (blk_below (kb Ba) hb)
  have mb_ := Aside0.mk (blk_below (kb Bb) hb)
  have n0_ := Aside0.mk (below_step (kB0 HB) hb)
  clear HB HB1 HB2 Ba Bb hb ha
  have HB := n0_
  have HB1 := k1_
  have HB2 := k2_
  have Ba := ma_
  have Bb := mb_
  clear n0_ k1_ k2_ ma_ mb_
  have hb4 := blk5 (w := w4) Bb.out
  have ha := blk5 (w := w4) Ba.out
  go_wp2_with (fail)
  refine (rules_Check.calls (⟨#[]⟩ : ByteArray) B1 d1 smallF 1 B3 d3 smallB B4 d4 smallT sh0 _ ⟨Kd.C_below Q1.out (kB0 HB2)⟩ ⟨sizes_small⟩ ⟨Kd.C_below Q3.out (kB0 HB2)⟩ ⟨Kd.C_below Q4.out (kB0 HB2)⟩ ⟨tab_below htab.out (kB0 HB)⟩ ⟨shape_small⟩ 1 (-1) (-1) ⟨check_unnamed⟩).mono ?_
  rintro e w5 ⟨rfl, hb⟩
  clear hb4 ha
  have k1_ := Aside0.mk (below_step (kB0 HB1) hb)
  have k2_ := Aside0.mk (below_step (kB0 HB2) hb)
  have ma_ := Aside0.mk (blk_below (kb Ba) hb)
  have mb_ := Aside0.mk (blk_below (kb Bb) hb)
  have n0_ := Aside0.mk (below_step (kB0 HB) hb)
  clear HB HB1 HB2 Ba Bb hb
  have HB := n0_
  have HB1 := k1_
  have HB2 := k2_
  have Ba := ma_
  have Bb := mb_
  clear n0_ k1_ k2_ ma_ mb_
  have ha := blk5 (w := w5) Ba.out
  obtain ⟨ad, T1, t1, rfl, e0, e1, l1, g1⟩ := at_T37 P4.out 0 (by decide) (by decide)
  have hadd : ad.add (Int.toNat 0 * 2) = ad := by cases ad; rfl
  replace e0 : w1.cell? ad = some (.int .i64 (rd_T37 smallT 0).f0) := by
    have h := e0
    first | rw [hadd] at h | skip
    exact h
  replace e1 : w1.cell? ⟨ad.block, ad.off + 1, none⟩ = some (.slice T1 (rd_T37 smallT 0).f1.length t1) := by
    have h := e1
    first | rw [hadd] at h | skip
    exact h
  clear hadd
  replace e0 := (HB1.out.cell (World.block_lt_of_cell? w1 _ e0)).trans e0
  replace e1 := (HB1.out.cell (World.block_lt_of_cell? w1 _ e1)).trans e1
  have G1 := Aside0.mk g1
  have L1 := Aside0.mk l1
  have hs : rd_T37 smallT 0 = ⟨0, [leaf5]⟩ := rfl
  rw [hs] at e0 e1 G1 L1
  obtain ⟨kl, hkl⟩ := largest_small
  have KL := Aside0.mk hkl
  clear hs g1 l1 hkl
  go_wp2_with (fail)
  refine (rules_Largest.calls kl 0 T1 t1 [leaf5] 5 _ (Kd.C_below G1.out (kB0 HB1)) L1.out KL.out).mono ?_
  rintro e w6 ⟨rfl, hb⟩
  have n0_ := Aside0.mk (below_step (kB0 HB) hb)
  clear HB hb
  have HB := n0_
  clear n0_
  go_wp2
  go_ret
  exact ⟨by first | rfl | (simp; done), kB0 HB⟩
end Go.Proofs.YtpeiafamkajedaaDoor.FAll
