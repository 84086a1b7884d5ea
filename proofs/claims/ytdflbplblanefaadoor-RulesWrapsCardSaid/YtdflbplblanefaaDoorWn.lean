/-
  Plain: in a right ensemble no sum wraps along the way.
-/
import Derived.Test.YtdflbplblanefaaDoorWw
import Derived.Test.YtdflbplblanefaaDoorPw
import Derived.Test.YtdflbplblanefaaDoorPv
import Derived.Test.YtdflbplblanefaaDoorOe
namespace Go.Proofs.YtdflbplblanefaaDoor.FAll
open Go.RowKit Go.Proofs.YtdflbplblanefaaDoorW.PrintWords Go.Proofs.YtdflbplblanefaaDoorW.PrintLast Go.Proofs.YtdflbplblanefaaDoorW.PrintMore
set_option linter.unusedVariables false
set_option linter.unusedSimpArgs false
theorem most_two : strip mostL = [0, 1073741824] := by decide +kernel
theorem most_only {a : List Int} (hl : Limbs a) (h : ¬ 0 ≤ cmpL a (strip mostL)) : valL a < 4611686018427387904 := by
  rw [most_two] at h
  unfold cmpL at h
  match a, hl with
  | [], _ => decide
  | [x], hl =>
    have := hl x (by simp)
    show x + 4294967296 * 0 < _
    omega
  | [x, y], hl =>
    have h1 := hl x (by simp)
    have h2 := hl y (by simp)
    rw [if_pos (show [x, y].length = [(0 : Int), 1073741824].length from rfl)] at h
    have h3 : ¬ 0 ≤ (if y < 1073741824 then (-1 : Int) else if 1073741824 < y then 1 else if x < 0 then -1 else if 0 < x then 1 else 0) := h
    show x + 4294967296 * (y + 4294967296 * 0) < _
    by_cases e : y < 1073741824
    · omega
    · rw [if_neg e] at h3
      split at h3
      · omega
      · split at h3
        · omega
        · split at h3 <;> omega
  | x :: y :: z :: l, _ =>
    rw [if_neg (by simp), if_neg (by simp)] at h
    exact absurd (by decide) h
theorem sums_all (q : List (List Int)) : ∀ d k, sumsV q d k = none → ∀ j, k ≤ j → j < k + d → ¬ 0 ≤ cmpL (strip (q.getD j [])) (strip mostL) := by
  intro d
  induction d with
  | zero => intro k _ j h1 h2; omega
  | succ d ih =>
    intro k h j h1 h2
    unfold sumsV at h
    split at h
    · cases h
    · rename_i hn
      by_cases e : j = k
      · subst e; exact hn
      · exact ih (k + 1) h j (by omega) (by omega)
theorem room_most {bs : List Int} {ts : List S35} (h : sumsV (roomsL bs ts) bs.length 0 = none) (n : Nat) (hn : n < bs.length) : amountI (rd bs (n : Int)) + sumG (n : Int) ts < 4611686018427387904 := by
  obtain ⟨r1, r2⟩ := rooms_val bs ts n hn
  have h2 := sums_all _ _ _ h n (Nat.zero_le _) (by omega)
  have h3 := most_only (strip_limbs r1) h2
  rw [strip_val, r2] at h3
  exact h3
theorem amount_abs (v : Int) (h : (Lit.int .i64 v).wf = true) : -amountI v ≤ v ∧ v ≤ amountI v := by
  have hv : -9223372036854775808 ≤ v ∧ v < 9223372036854775808 := by
    have h2 : IntKind.i64.min ≤ v ∧ v ≤ 9223372036854775807 := by simpa [Lit.wf] using h
    have h3 : IntKind.i64.min = -9223372036854775808 := by decide
    omega
  unfold amountI
  split <;> simp only [wrap_u64] <;> omega
theorem largestG_ge (ns : List S61) : ∀ (d i : Nat) (m : Int), m ≤ largestG ns d i m := by
  intro d
  induction d with
  | zero => intro i m; exact Int.le_refl _
  | succ d ih =>
    intro i m
    unfold largestG
    refine Int.le_trans ?_ (ih (i + 1) _)
    split
    · unfold mx; split <;> omega
    · exact Int.le_refl _
theorem largestG_at (ns : List S61) : ∀ (d i : Nat) (m : Int) (j : Nat), i ≤ j → j < i + d → (rd_T61 ns (j : Int)).f0 = 1 → amountI (rd_T61 ns (j : Int)).f1 ≤ largestG ns d i m := by
  intro d
  induction d with
  | zero => intro i m j h1 h2; omega
  | succ d ih =>
    intro i m j h1 h2 h3
    unfold largestG
    by_cases e : j = i
    · subst e
      rw [if_pos h3]
      refine Int.le_trans ?_ (largestG_ge ns d (j + 1) _)
      unfold mx; split <;> omega
    · exact ih (i + 1) _ j (by omega) (by omega) h3
/-- The leaf that the way comes to. -/
theorem leaf_abs {ns : List S61} (ok : TreeFine ns) (xs : List Nat) (m : Nat) (hw : WayOk ns xs m) (hok : ∀ x ∈ ns, okNode x) : -largestV ns ≤ (rd_T61 ns (wayI ns xs m)).f1 ∧ (rd_T61 ns (wayI ns xs m)).f1 ≤ largestV ns := by
  obtain ⟨h0, h1⟩ := hw.lies m (Nat.le_refl _)
  obtain ⟨q, hq⟩ : ∃ q : Nat, wayI ns xs m = (q : Int) := ⟨_, (Int.toNat_of_nonneg h0).symm⟩
  have he := hw.ends
  rw [hq] at he h1 ⊢
  have hlt : q < ns.length := by omega
  have hk : (rd_T61 ns (q : Int)).f0 = 1 := by
    rcases right_kids (ok.fit q hlt) with h | ⟨h, _⟩
    · exact h
    · unfold innerB at he
      rcases h with h | h <;> rw [h] at he <;> cases he
  have hmem : rd_T61 ns (q : Int) ∈ ns := by
    unfold rd_T61
    rw [Int.toNat_natCast, List.getD_eq_getElem?_getD, List.getElem?_eq_getElem hlt]
    exact List.getElem_mem hlt
  have ha := amount_abs _ (hok _ hmem).2.1
  have hl := largestG_at ns ns.length 0 0 q (Nat.zero_le _) (by omega) hk
  unfold largestV
  omega
theorem sumG_take (o : Int) (ts : List S35) (n : Nat) (hn : n < ts.length) : sumG o (ts.take (n + 1)) = sumG o (ts.take n) + (if (rd_T35 ts (n : Int)).f0 = o then largestV (rd_T35 ts (n : Int)).f1 else 0) := by
  induction ts generalizing n with
  | nil => exact absurd hn (Nat.not_lt_zero _)
  | cons t l ih =>
    cases n with
    | zero =>
      show (if t.f0 = o then largestV t.f1 else 0) + 0 = 0 + (if t.f0 = o then largestV t.f1 else 0)
      omega
    | succ n =>
      have h := ih n (by simpa using hn)
      have e : rd_T35 (t :: l) ((n + 1 : Nat) : Int) = rd_T35 l (n : Int) := by
        unfold rd_T35
        rw [Int.toNat_natCast, Int.toNat_natCast]
        rfl
      rw [e, List.take_succ_cons, List.take_succ_cons]
      show (if t.f0 = o then largestV t.f1 else 0) + sumG o (l.take (n + 1)) = (if t.f0 = o then largestV t.f1 else 0) + sumG o (l.take n) + _
      rw [h]
      omega
theorem sumG_le (o : Int) : ∀ (ts : List S35) (n : Nat), sumG o (ts.take n) ≤ sumG o ts
  | [], n => by rw [List.take_nil]; exact Int.le_refl _
  | t :: l, 0 => sumG_nonneg o _
  | t :: l, n + 1 => by
    have := sumG_le o l n
    rw [List.take_succ_cons]
    show (if t.f0 = o then largestV t.f1 else 0) + _ ≤ (if t.f0 = o then largestV t.f1 else 0) + _
    omega
theorem rd_set (l : List Int) (i j : Int) (v : Int) (h0 : 0 ≤ i) (h1 : i < (l.length : Int)) (g0 : 0 ≤ j) : rd (l.set i.toNat v) j = if i = j then v else rd l j := by
  unfold rd
  rw [List.getD_eq_getElem?_getD, List.getD_eq_getElem?_getD, List.getElem?_set]
  by_cases e : i = j
  · subst e
    rw [if_pos rfl, if_pos rfl, if_pos (by omega)]
    rfl
  · rw [if_neg e, if_neg (by omega)]
section
variable (bs : List Int) (ts : List S35) (xs : List Nat) (M : Nat → Nat)
/-- How far a sum can come. -/
theorem score_abs (hb : ∀ b ∈ bs, (Lit.int .i64 b).wf = true) (hs : sumsV (roomsL bs ts) bs.length 0 = none) (ho : ∀ n : Nat, n < ts.length → 0 ≤ (rd_T35 ts (n : Int)).f0 ∧ (rd_T35 ts (n : Int)).f0 < (bs.length : Int))
    (hl : ∀ n : Nat, n < ts.length → -largestV (rd_T35 ts (n : Int)).f1 ≤ (rd_T61 (rd_T35 ts (n : Int)).f1 (wayI (rd_T35 ts (n : Int)).f1 xs (M n))).f1 ∧ (rd_T61 (rd_T35 ts (n : Int)).f1 (wayI (rd_T35 ts (n : Int)).f1 xs (M n))).f1 ≤ largestV (rd_T35 ts (n : Int)).f1) :
    ∀ n : Nat, n ≤ ts.length → ∀ o : Nat, o < bs.length → -(amountI (rd bs (o : Int)) + sumG (o : Int) (ts.take n)) ≤ rd (scoreG ts xs M bs n) (o : Int) ∧ rd (scoreG ts xs M bs n) (o : Int) ≤ amountI (rd bs (o : Int)) + sumG (o : Int) (ts.take n) := by
  intro n
  induction n with
  | zero =>
    intro _ o h
    have hm : rd bs (o : Int) ∈ bs := by
      unfold rd
      rw [Int.toNat_natCast, List.getD_eq_getElem?_getD, List.getElem?_eq_getElem h]
      exact List.getElem_mem h
    have := amount_abs _ (hb _ hm)
    show -(_ + (0 : Int)) ≤ rd bs (o : Int) ∧ rd bs (o : Int) ≤ _ + (0 : Int)
    omega
  | succ n ih =>
    intro hn o h
    obtain ⟨o0, o1⟩ := ho n (by omega)
    obtain ⟨l0, l1⟩ := hl n (by omega)
    have h1 := ih (by omega) o h
    have ht := sumG_take (o : Int) ts n (by omega)
    have hle := sumG_le (o : Int) ts (n + 1)
    have hm := room_most hs o h
    have e : scoreG ts xs M bs (n + 1) = stepSc xs (scoreG ts xs M bs n) (rd_T35 ts (n : Int)) (M n) := rfl
    rw [e]
    unfold stepSc
    rw [rd_set _ _ _ _ o0 (by rw [scoreG_length]; exact o1) (by omega)]
    by_cases c : (rd_T35 ts (n : Int)).f0 = (o : Int)
    · rw [if_pos c, c]
      rw [if_pos c] at ht
      unfold wrap64
      omega
    · rw [if_neg c]
      rw [if_neg c] at ht
      omega
theorem no_wrap (hb : ∀ b ∈ bs, (Lit.int .i64 b).wf = true) (hs : sumsV (roomsL bs ts) bs.length 0 = none) (ho : ∀ n : Nat, n < ts.length → 0 ≤ (rd_T35 ts (n : Int)).f0 ∧ (rd_T35 ts (n : Int)).f0 < (bs.length : Int))
    (hl : ∀ n : Nat, n < ts.length → -largestV (rd_T35 ts (n : Int)).f1 ≤ (rd_T61 (rd_T35 ts (n : Int)).f1 (wayI (rd_T35 ts (n : Int)).f1 xs (M n))).f1 ∧ (rd_T61 (rd_T35 ts (n : Int)).f1 (wayI (rd_T35 ts (n : Int)).f1 xs (M n))).f1 ≤ largestV (rd_T35 ts (n : Int)).f1) : NoWrap bs ts xs M where
  leaf := by
    intro n hn
    obtain ⟨o0, o1⟩ := ho n hn
    obtain ⟨o, hoo⟩ : ∃ o : Nat, (rd_T35 ts (n : Int)).f0 = (o : Int) := ⟨_, (Int.toNat_of_nonneg o0).symm⟩
    have hm := room_most hs o (by omega)
    have hle := sumG_le (o : Int) ts (n + 1)
    have ht := sumG_take (o : Int) ts n hn
    rw [if_pos hoo] at ht
    have h0 := sumG_nonneg (o : Int) (ts.take n)
    have := (amount_bd (rd bs (o : Int))).1
    have := hl n hn
    omega
  sum := by
    intro n hn
    obtain ⟨o0, o1⟩ := ho n hn
    obtain ⟨o, hoo⟩ : ∃ o : Nat, (rd_T35 ts (n : Int)).f0 = (o : Int) := ⟨_, (Int.toNat_of_nonneg o0).symm⟩
    have hm := room_most hs o (by omega)
    have hle := sumG_le (o : Int) ts (n + 1)
    have := score_abs bs ts xs M hb hs ho hl (n + 1) (by omega) o (by omega)
    have e : rdOf (0 : Int) (scoreG ts xs M bs (n + 1)) (rd_T35 ts (n : Int)).f0 = rd (scoreG ts xs M bs (n + 1)) (o : Int) := by rw [hoo]; rfl
    rw [e]
    omega
end
end Go.Proofs.YtdflbplblanefaaDoor.FAll
