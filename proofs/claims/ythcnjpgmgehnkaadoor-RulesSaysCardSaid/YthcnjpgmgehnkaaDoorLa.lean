/-
  What the two Say functions answer, for every broken rule, and the law's walk.
-/
import Derived.Test.YthcnjpgmgehnkaaDoorWk
import Derived.Deep.RegionWith
namespace Go.Proofs.YthcnjpgmgehnkaaDoor
set_option linter.unusedVariables false
set_option linter.unusedSimpArgs false
open Go.RowKit Go.Sort Go.Proofs.YthcnjpgmgehnkaaDoor.FAll Go.Proofs.YthcnjpgmgehnkaaDoorW.PrintWords Go.Proofs.YthcnjpgmgehnkaaDoorW.PrintLast Go.Proofs.YthcnjpgmgehnkaaDoorW.PrintMore

theorem nDigits_le (n u : Nat) (h : u < 10 ^ (n + 1)) : Lib.nDigits u ≤ n + 1 := by
  induction n generalizing u with
  | zero => rw [Lib.nDigits_small (by simpa using h)]; exact Nat.le_refl _
  | succ n ih =>
    by_cases h1 : u < 10
    · rw [Lib.nDigits_small h1]; omega
    · rw [Lib.nDigits_big h1]
      have := ih (u / 10) (by rw [Nat.pow_succ] at h; omega)
      omega
theorem dec_size (u : Nat) (h : u < 18446744073709551616) : (Lib.decDigits u).length ≤ 20 := by
  rw [Lib.decDigits_length]
  exact nDigits_le 19 u (by omega)
theorem num_size (n : Int) (h0 : -9223372036854775808 ≤ n) (h1 : n ≤ 9223372036854775807) : (num n).size ≤ 30 := by
  unfold num Lib.itoa
  split
  · have := dec_size n.natAbs (by omega)
    simp [ByteArray.size]; omega
  · have := dec_size n.toNat (by omega)
    simp [ByteArray.size]; omega

/-- The sentence of a broken rule. -/
def sayS (a b c : Int) : ByteArray :=
  if a = 0 then ⟨#[114, 105, 103, 104, 116]⟩
  else
    let s := ⟨#[114, 117, 108, 101, 32]⟩ ++ num a
    let s := if 0 ≤ b then s ++ (⟨#[32, 116, 114, 101, 101, 32]⟩ ++ num b) else s
    if 0 ≤ c then s ++ (⟨#[32, 110, 111, 100, 101, 32]⟩ ++ num c) else s

section
variable (a b c : Int) (ha0 : -9223372036854775808 ≤ a) (ha1 : a ≤ 9223372036854775807) (hb0 : -9223372036854775808 ≤ b) (hb1 : b ≤ 9223372036854775807) (hc0 : -9223372036854775808 ≤ c) (hc1 : c ≤ 9223372036854775807) (w : World)
include ha0 ha1 hb0 hb1 hc0 hc1
theorem say_at (htab : Tab w) (s : ByteArray) (hs : Aside0 (s = sayS a b c)) : Calls Tryd.prog 4 #[.agg #[.int .i64 a, .int .i64 b, .int .i64 c]] w fun e w' => e = .returned (.string s) ∧ Below w.heap.size w w' := by
  obtain rfl := hs.out
  by_cases ha : a = 0
  · subst ha
    have : sayS 0 b c = ⟨#[114, 105, 103, 104, 116]⟩ := by unfold sayS; rw [if_pos rfl]
    rw [this]; exact say_zero b c w
  · have sa := num_size a ha0 ha1
    have sb := num_size b hb0 hb1
    have sc := num_size c hc0 hc1
    unfold sayS
    rw [if_neg ha]
    by_cases hb : 0 ≤ b <;> by_cases hc : 0 ≤ c
    · simp only [if_pos hb, if_pos hc]; exact say_11 a b c ha hb hc ha0 ha1 hb0 hb1 hc0 hc1 _ _ _ ⟨rfl⟩ ⟨rfl⟩ ⟨rfl⟩ sa sb sc w htab
    · simp only [if_pos hb, if_neg hc]; exact say_10 a b c ha hb hc ha0 ha1 hb0 hb1 hc0 hc1 _ _ _ ⟨rfl⟩ ⟨rfl⟩ ⟨rfl⟩ sa sb sc w htab
    · simp only [if_neg hb, if_pos hc]; exact say_01 a b c ha hb hc ha0 ha1 hb0 hb1 hc0 hc1 _ _ _ ⟨rfl⟩ ⟨rfl⟩ ⟨rfl⟩ sa sb sc w htab
    · simp only [if_neg hb, if_neg hc]; exact say_00 a b c ha hb hc ha0 ha1 hb0 hb1 hc0 hc1 _ _ _ ⟨rfl⟩ ⟨rfl⟩ ⟨rfl⟩ sa sb sc w htab
omit ha0 ha1 hb0 hb1 hc0 hc1 in
theorem neg_num (u : Nat) : (⟨#[45]⟩ : ByteArray) ++ ⟨(Lib.decDigits u).toArray⟩ = ⟨(45 :: Lib.decDigits u).toArray⟩ := by
  apply ByteArray.ext
  simp
theorem ref_at (s : ByteArray) (hs : Aside0 (s = sayS a b c)) : Calls Tryd.prog 5 #[.agg #[.int .i64 a, .int .i64 b, .int .i64 c]] w fun e w' => e = .returned (.string s) ∧ Below w.heap.size w w' := by
  obtain rfl := hs.out
  by_cases ha : a = 0
  · subst ha
    have : sayS 0 b c = ⟨#[114, 105, 103, 104, 116]⟩ := by unfold sayS; rw [if_pos rfl]
    rw [this]; exact ref_zero b c w
  · have sa := num_size a ha0 ha1
    have sb := num_size b hb0 hb1
    have sc := num_size c hc0 hc1
    unfold sayS
    rw [if_neg ha]
    by_cases hn : a < 0
    · obtain ⟨k, hF, hP⟩ := neg_f a hn ha0
      have en : num a = (⟨#[45]⟩ : ByteArray) ++ ⟨(Lib.decDigits a.natAbs).toArray⟩ := by rw [neg_num]; unfold num Lib.itoa; rw [if_pos hn]
      have sz : (⟨(Lib.decDigits a.natAbs).toArray⟩ : ByteArray).size ≤ 30 := by
        have := dec_size a.natAbs (by omega)
        simp [ByteArray.size]; omega
      rw [en]
      by_cases hb : 0 ≤ b <;> by_cases hc : 0 ≤ c
      · simp only [if_pos hb, if_pos hc, ← ByteArray.append_assoc]; exact ref_111 a b c ha hn hb hc ha0 ha1 hb0 hb1 hc0 hc1 _ _ _ k _ ⟨hF⟩ ⟨hP⟩ ⟨rfl⟩ ⟨rfl⟩ sz sb sc w
      · simp only [if_pos hb, if_neg hc, ← ByteArray.append_assoc]; exact ref_110 a b c ha hn hb hc ha0 ha1 hb0 hb1 hc0 hc1 _ _ _ k _ ⟨hF⟩ ⟨hP⟩ ⟨rfl⟩ ⟨rfl⟩ sz sb sc w
      · simp only [if_neg hb, if_pos hc, ← ByteArray.append_assoc]; exact ref_101 a b c ha hn hb hc ha0 ha1 hb0 hb1 hc0 hc1 _ _ _ k _ ⟨hF⟩ ⟨hP⟩ ⟨rfl⟩ ⟨rfl⟩ sz sb sc w
      · simp only [if_neg hb, if_neg hc, ← ByteArray.append_assoc]; exact ref_100 a b c ha hn hb hc ha0 ha1 hb0 hb1 hc0 hc1 _ _ _ k _ ⟨hF⟩ ⟨hP⟩ ⟨rfl⟩ ⟨rfl⟩ sz sb sc w
    · by_cases hb : 0 ≤ b <;> by_cases hc : 0 ≤ c
      · simp only [if_pos hb, if_pos hc, ← ByteArray.append_assoc]; exact ref_011 a b c ha hn hb hc ha0 ha1 hb0 hb1 hc0 hc1 _ _ _ ⟨rfl⟩ ⟨rfl⟩ ⟨rfl⟩ sa sb sc w
      · simp only [if_pos hb, if_neg hc, ← ByteArray.append_assoc]; exact ref_010 a b c ha hn hb hc ha0 ha1 hb0 hb1 hc0 hc1 _ _ _ ⟨rfl⟩ ⟨rfl⟩ ⟨rfl⟩ sa sb sc w
      · simp only [if_neg hb, if_pos hc, ← ByteArray.append_assoc]; exact ref_001 a b c ha hn hb hc ha0 ha1 hb0 hb1 hc0 hc1 _ _ _ ⟨rfl⟩ ⟨rfl⟩ ⟨rfl⟩ sa sb sc w
      · simp only [if_neg hb, if_neg hc, ← ByteArray.append_assoc]; exact ref_000 a b c ha hn hb hc ha0 ha1 hb0 hb1 hc0 hc1 _ _ _ ⟨rfl⟩ ⟨rfl⟩ ⟨rfl⟩ sa sb sc w

theorem law_at (htab : Tab w) : Calls Tryd.prog 3 #[.agg #[.int .i64 a, .int .i64 b, .int .i64 c]] w fun e w' => e = .returned (.bool true) ∧ Below w.heap.size w w' := by
  have HB := Aside0.mk (Below.refl w.heap.size w)
  obtain ⟨s, hs0⟩ : ∃ s, s = sayS a b c := ⟨_, rfl⟩
  have hs := Aside0.mk hs0
  clear hs0
  go_enter Tryd.func3, Tryd.ntmps3
  go_wp2_with (first | ((with_reducible refine gate_dst (N := 1) rfl ?_); refine box_event ?hg (N := 1) ?hd (cs := #[.int .i64 a, .int .i64 b, .int .i64 c]) (t := 24) ?hr ?_; (case hd => rfl); (case hg => rfl); (case hr => first | (go_simp; done) | (go_simp; rfl)); intro gb hg w0 hbox hb; have n0_ := Aside0.mk (below_step (by repeat (first | (with_reducible first | exact HB.out | apply below_alloc | apply pw_below_drewN | apply below_drew1) | exact HB.out)) hb); have n1_ := Aside0.mk hbox; clear HB; have HB := n0_; have BK := n1_; clear n0_ n1_; clear hb hbox hg; have hz0 : w0.cell? ⟨gb, 0, none⟩ = some (.int .i64 a) := (blk_cell BK.out 0).trans rfl; have hz1 : w0.cell? ⟨gb, 1, none⟩ = some (.int .i64 b) := (blk_cell BK.out 1).trans rfl; have hz2 : w0.cell? ⟨gb, 2, none⟩ = some (.int .i64 c) := (blk_cell BK.out 2).trans rfl; have hf0 := blk_frozen BK.out 0; have hf1 := blk_frozen BK.out 1; have hf2 := blk_frozen BK.out 2))
  go_region_with (first | (go_at_call 4; refine (say_at a b c ha0 ha1 hb0 hb1 hc0 hc1 _ (tab_below htab (by repeat (first | (with_reducible first | exact HB.out | apply below_alloc | apply pw_below_drewN | apply below_drew1) | exact HB.out))) s hs).mono ?_; rintro e w1 ⟨rfl, hb⟩; have n1_ := Aside0.mk (below_step (by repeat (first | (with_reducible first | exact HB.out | apply below_alloc | apply pw_below_drewN | apply below_drew1) | exact HB.out)) hb); have n0_ := Aside0.mk (blk_below (g := gb) (o := .cells #[.int .i64 a, .int .i64 b, .int .i64 c] 24 (0, 0)) (by (with_reducible repeat (first | refine blk_drewN ?_ _ | refine blk_drew ?_ | refine blk_alloc ?_ _)); exact BK.out) hb); clear BK; have BK := n0_; clear n0_; clear HB; have HB := n1_; clear n1_; clear hb; have hz0 : w1.cell? ⟨gb, 0, none⟩ = some (.int .i64 a) := (blk_cell BK.out 0).trans rfl; have hz1 : w1.cell? ⟨gb, 1, none⟩ = some (.int .i64 b) := (blk_cell BK.out 1).trans rfl; have hz2 : w1.cell? ⟨gb, 2, none⟩ = some (.int .i64 c) := (blk_cell BK.out 2).trans rfl; have hf0 := blk_frozen BK.out 0; have hf1 := blk_frozen BK.out 1; have hf2 := blk_frozen BK.out 2) | (go_at_call 5; refine (ref_at a b c ha0 ha1 hb0 hb1 hc0 hc1 _ s hs).mono ?_; rintro e w2 ⟨rfl, hb⟩; have n1_ := Aside0.mk (below_step (by repeat (first | (with_reducible first | exact HB.out | apply below_alloc | apply pw_below_drewN | apply below_drew1) | exact HB.out)) hb); have n0_ := Aside0.mk (blk_below (g := gb) (o := .cells #[.int .i64 a, .int .i64 b, .int .i64 c] 24 (0, 0)) (by (with_reducible repeat (first | refine blk_drewN ?_ _ | refine blk_drew ?_ | refine blk_alloc ?_ _)); exact BK.out) hb); clear BK; have BK := n0_; clear n0_; clear HB; have HB := n1_; clear n1_; clear hb; have hz0 : w2.cell? ⟨gb, 0, none⟩ = some (.int .i64 a) := (blk_cell BK.out 0).trans rfl; have hz1 : w2.cell? ⟨gb, 1, none⟩ = some (.int .i64 b) := (blk_cell BK.out 1).trans rfl; have hz2 : w2.cell? ⟨gb, 2, none⟩ = some (.int .i64 c) := (blk_cell BK.out 2).trans rfl; have hf0 := blk_frozen BK.out 0; have hf1 := blk_frozen BK.out 1; have hf2 := blk_frozen BK.out 2))
  all_goals go_wp2
  all_goals go_ret
  all_goals exact ⟨by first | rfl | simp, (by repeat (first | (with_reducible first | exact HB.out | apply below_alloc | apply pw_below_drewN | apply below_drew1) | exact HB.out))⟩
end
end Go.Proofs.YthcnjpgmgehnkaaDoor
