/-
  bins.code and the document's code answer the same: plain, over the printed functions.
-/
import Derived.Test.YtmkmooifgcdocaaBr
import Derived.Test.YtmkmooifgcdocaaFAllx5
import Derived.Test.YtmkmooifgcdocaaFAllx8
namespace Go.Proofs.Ytmkmooifgcdocaa
set_option linter.unusedVariables false
open Go.RowKit Go.Proofs.Ytmkmooifgcdocaa.FAll Go.Proofs.YtmkmooifgcdocaaW.PrintWords Go.Proofs.YtmkmooifgcdocaaW.PrintLast Go.Proofs.YtmkmooifgcdocaaW.PrintMore

/-- where a rising row of keys passes x -/
theorem passes (K : Nat → Int) (x : Int) (n : Nat) (h : ∀ i j, i < j → j < n → K i < K j) : ∃ r, r ≤ n ∧ (∀ i, i < r → K i < x) ∧ (∀ i, r ≤ i → i < n → x ≤ K i) := by
  induction n with
  | zero => exact ⟨0, by omega, fun i hi => by omega, fun i _ hi => by omega⟩
  | succ n ih =>
    obtain ⟨r, h1, h2, h3⟩ := ih (fun i j hij hj => h i j hij (by omega))
    by_cases hr : r = n ∧ K n < x
    · refine ⟨n + 1, by omega, fun i hi => ?_, fun i hi hj => by omega⟩
      by_cases hin : i = n
      · rw [hin]; exact hr.2
      · exact h2 i (by omega)
    · refine ⟨r, by omega, h2, fun i hi hj => ?_⟩
      by_cases hin : i < n
      · exact h3 i hi hin
      · obtain rfl : i = n := by omega
        by_cases e : r = i
        · have := fun h => hr ⟨e, h⟩
          omega
        · have := h3 r (by omega) (by omega)
          have := h r i (by omega) (by omega)
          omega

theorem rising {K : Nat → Int} {n : Nat} (h : ∀ j, j < n → j ≠ 0 → K (j - 1) < K j) : ∀ i j, i < j → j < n → K i < K j := by
  intro i j hij hj
  induction j with
  | zero => omega
  | succ j ih =>
    have h1 := h (j + 1) hj (by omega)
    rw [Nat.add_sub_cancel] at h1
    by_cases e : i = j
    · rw [e]; exact h1
    · have := ih (by omega) (by omega)
      omega

/-- halving -/
theorem halve {β : Type} {g : Int → Int → Nat → Option β} {n r : Nat} {v : β} (hr : r ≤ n)
    (hlo : ∀ lo hi mid : Nat, lo < hi → hi ≤ n → mid = (lo + hi) / 2 → mid < r → Ev (g ((mid + 1 : Nat) : Int) (hi : Int)) v → Ev (g (lo : Int) (hi : Int)) v)
    (hhi : ∀ lo hi mid : Nat, lo < hi → hi ≤ n → mid = (lo + hi) / 2 → r ≤ mid → Ev (g (lo : Int) (mid : Int)) v → Ev (g (lo : Int) (hi : Int)) v)
    (hend : Ev (g (r : Int) (r : Int)) v) : Ev (g 0 (n : Int)) v := by
  have H : ∀ d lo hi : Nat, hi - lo ≤ d → lo ≤ r → r ≤ hi → hi ≤ n → Ev (g (lo : Int) (hi : Int)) v := by
    intro d
    induction d with
    | zero =>
      intro lo hi h1 h2 h3 h4
      obtain rfl : lo = r := by omega
      obtain rfl : hi = lo := by omega
      exact hend
    | succ d ih =>
      intro lo hi h1 h2 h3 h4
      by_cases e : lo < hi
      · by_cases hm : (lo + hi) / 2 < r
        · exact hlo lo hi _ e h4 rfl hm (ih _ _ (by omega) (by omega) h3 h4)
        · exact hhi lo hi _ e h4 rfl (by omega) (ih _ _ (by omega) h2 (by omega) (by omega))
      · obtain rfl : lo = r := by omega
        obtain rfl : hi = lo := by omega
        exact hend
  exact H n 0 n (by omega) (by omega) hr (by omega)

theorem mid_eq {lo hi : Nat} (h : hi ≤ 17592186044416) (h2 : lo < hi) : wrap64 (Int.tdiv (wrap64 ((lo : Int) + (hi : Int))) 2) = (((lo + hi) / 2 : Nat) : Int) := by
  rw [w64 (x := (lo : Int) + hi) (by omega) (by omega), Int.tdiv_eq_ediv_of_nonneg (by omega), w64 (by omega) (by omega)]
  omega

/-! the numbers of small whole numbers -/
theorem f64int_small : ∀ n : Fin 1024, isNaN (f64int (n.val : Int)) = false ∧ (n.val = 0 ∨ fkey (f64int ((n.val - 1 : Nat) : Int)) < fkey (f64int (n.val : Int))) := by decide +kernel
theorem f64int_nan {n : Int} (h0 : 0 ≤ n) (h1 : n < 1024) : isNaN (f64int n) = false := by
  have := (f64int_small ⟨n.toNat, by omega⟩).1
  simpa [Int.toNat_of_nonneg h0] using this
theorem f64int_rise {m n : Int} (h0 : 0 ≤ m) (h : m < n) (h1 : n < 1024) : fkey (f64int m) < fkey (f64int n) := by
  have := rising (K := fun i => fkey (f64int (i : Int))) (n := 1024) (fun j hj hn => by
    rcases (f64int_small ⟨j, hj⟩).2 with h | h
    · exact absurd h hn
    · exact h) m.toNat n.toNat (by omega) (by omega)
  simpa [Int.toNat_of_nonneg h0, Int.toNat_of_nonneg (show 0 ≤ n by omega)] using this

section
variable {cs : List (List Nat)} {ks : List (List Int)}

theorem below_cut {l : List Nat} (hl : l.length ≤ 17592186044416) (hb : ∀ j, l.getD j 0 < 18446744073709551616) (x : Int) {r : Nat} (hr : r ≤ l.length)
    (h1 : ∀ i, i < r → fkey (l.getD i 0) < x) (h2 : ∀ i, r ≤ i → i < l.length → x ≤ fkey (l.getD i 0)) : Ev (fun k => bins_below_float64_uint64.f k l x) (r : Int) := by
  unfold bins_below_float64_uint64.f
  refine halve (g := fun lo hi k => bins_below_float64_uint64.l0 k l x lo hi) hr ?_ ?_ ?_
  · intro lo hi mid e hn hm hlt H
    refine Ev.step (fun k => bins_below_float64_uint64.l0.eq_2 l x _ _ k) ?_
    rw [mid_eq (by omega) e, ← hm]
    refine Ev.pos (by omega) (Ev.pos (by omega) (Ev.pos (by omega) (Ev.bindc (key_f (hb _)) (Ev.pos (h1 mid hlt) ?_))))
    rw [w1 (n := l.length) (by omega) hl]
    exact H
  · intro lo hi mid e hn hm hge H
    refine Ev.step (fun k => bins_below_float64_uint64.l0.eq_2 l x _ _ k) ?_
    rw [mid_eq (by omega) e, ← hm]
    have := h2 mid hge (by omega)
    exact Ev.pos (by omega) (Ev.pos (by omega) (Ev.pos (by omega) (Ev.bindc (key_f (hb _)) (Ev.neg (by exact Int.not_lt.2 this) H))))
  · exact Ev.step (fun k => bins_below_float64_uint64.l0.eq_2 l x _ _ k) (Ev.neg (by omega) (Ev.now _))

theorem below_cat {l : List Int} (hl : l.length ≤ 17592186044416) (hc : ∀ j, j < l.length → 0 ≤ l.getD j 0 ∧ l.getD j 0 < 1024) {a : Nat} (ha : a < 18446744073709551616) (na : isNaN a = false) {r : Nat} (hr : r ≤ l.length)
    (h1 : ∀ i, i < r → fkey (f64int (l.getD i 0)) < fkey a) (h2 : ∀ i, r ≤ i → i < l.length → fkey a ≤ fkey (f64int (l.getD i 0))) : Ev (fun k => bins_below_int_float64.f k l a) (r : Int) := by
  have hlt (i : Nat) (hi : i < l.length) : flt (f64int (l.getD i 0)) a = decide (fkey (f64int (l.getD i 0)) < fkey a) := by
    rw [flt_k (f64int_lt _) ha, f64int_nan (hc i hi).1 (hc i hi).2, na]; simp
  unfold bins_below_int_float64.f
  refine halve (g := fun lo hi k => bins_below_int_float64.l0 k l a lo hi) hr ?_ ?_ ?_
  · intro lo hi mid e hn hm hlt' H
    refine Ev.step (fun k => bins_below_int_float64.l0.eq_2 l a _ _ k) ?_
    rw [mid_eq (by omega) e, ← hm]
    refine Ev.pos (by omega) (Ev.pos (by omega) (Ev.pos (by omega) (Ev.bindc rfl (Ev.pos ?_ ?_))))
    · rw [rd_nat, hlt mid (by omega)]
      exact decide_eq_true (h1 mid hlt')
    · rw [w1 (n := l.length) (by omega) hl]
      exact H
  · intro lo hi mid e hn hm hge H
    refine Ev.step (fun k => bins_below_int_float64.l0.eq_2 l a _ _ k) ?_
    rw [mid_eq (by omega) e, ← hm]
    have := h2 mid hge (by omega)
    refine Ev.pos (by omega) (Ev.pos (by omega) (Ev.pos (by omega) (Ev.bindc rfl (Ev.neg ?_ H))))
    rw [rd_nat, hlt mid (by omega)]
    simp only [decide_eq_true_eq]
    omega
  · exact Ev.step (fun k => bins_below_int_float64.l0.eq_2 l a _ _ k) (Ev.neg (by omega) (Ev.now _))

/-- counting up -/
theorem countUp {β γ : Type} {g : γ → Int → Nat → Option β} {n : Nat} {st : Nat → γ} {v : β}
    (hs : ∀ j : Nat, j < n → Ev (g (st (j + 1)) ((j + 1 : Nat) : Int)) v → Ev (g (st j) (j : Int)) v) (hend : Ev (g (st n) (n : Int)) v) : Ev (g (st 0) 0) v := by
  have H : ∀ d j : Nat, j + d = n → Ev (g (st j) (j : Int)) v := by
    intro d
    induction d with
    | zero =>
      intro j hj
      obtain rfl : j = n := by omega
      exact hend
    | succ d ih =>
      intro j hj
      exact hs j (by omega) (ih (j + 1) (by omega))
  exact H n 0 (by omega)

theorem code_same (h1 : Rows1 cs) (h3 : Rows3 ks) (R : Right cs ks) (i : Nat) (hi : i < cs.length) {a : Nat} (ha : a < 18446744073709551616) :
    ∃ v, Ev (fun k => bins_code.f k cs ks (i : Int) a) v ∧ Ev (fun k => thicketref20_code.f k cs ks (i : Int) a) v := by
  have hle := R.le
  have heq := R.eq
  cases na : isNaN a
  rotate_left
  · refine ⟨(0, -1, true), ?_, ?_⟩
    · unfold bins_code.f
      exact Ev.neg (by rw [feq_self ha, na]; decide) (Ev.now _)
    · unfold thicketref20_code.f
      exact Ev.neg (by rw [feq_self ha, na]; decide) (Ev.now _)
  have hC := R.cut i hi
  have hK := R.cat i (by omega)
  have c1 (j : Nat) (hj : j < (cs.getD i []).length) : isNaN ((cs.getD i []).getD j 0) = false := by
    have := hC j hj
    unfold goodCut at this
    simp only [Bool.and_eq_true, Bool.not_eq_true'] at this
    exact this.1.1
  have c2 : ∀ j, j < (cs.getD i []).length → j ≠ 0 → fkey ((cs.getD i []).getD (j - 1) 0) < fkey ((cs.getD i []).getD j 0) := by
    intro j hj h0
    have := hC j hj
    unfold goodCut at this
    simp only [Bool.and_eq_true, Bool.or_eq_true, decide_eq_true_eq] at this
    rcases this.2 with h | h
    · exact absurd h h0
    · exact h
  have k1 (j : Nat) (hj : j < (ks.getD i []).length) : 0 ≤ (ks.getD i []).getD j 0 ∧ (ks.getD i []).getD j 0 < 1024 := by
    have := hK j hj
    unfold goodCat at this
    simp only [Bool.and_eq_true, decide_eq_true_eq] at this
    exact this.1
  have k2 : ∀ j, j < (ks.getD i []).length → j ≠ 0 → fkey (f64int ((ks.getD i []).getD (j - 1) 0)) < fkey (f64int ((ks.getD i []).getD j 0)) := by
    intro j hj h0
    have := hK j hj
    unfold goodCat at this
    simp only [Bool.and_eq_true, Bool.or_eq_true, decide_eq_true_eq] at this
    rcases this.2 with h | h
    · exact absurd h h0
    · exact f64int_rise (k1 (j - 1) (by omega)).1 h this.1.2
  obtain ⟨r, r1, r2, r3⟩ := passes (fun j => fkey ((cs.getD i []).getD j 0)) (fkey a) _ (rising c2)
  obtain ⟨s, s1, s2, s3⟩ := passes (fun j => fkey (f64int ((ks.getD i []).getD j 0))) (fkey a) _ (rising k2)
  have rise2 := rising (K := fun j => fkey (f64int ((ks.getD i []).getD j 0))) k2
  have hfeq (j : Nat) (hj : j < (ks.getD i []).length) : feq (f64int ((ks.getD i []).getD j 0)) a = decide (fkey (f64int ((ks.getD i []).getD j 0)) = fkey a) := by
    rw [feq_k (f64int_lt _) ha, f64int_nan (k1 j hj).1 (k1 j hj).2, na]; simp
  have hflt (j : Nat) (hj : j < (cs.getD i []).length) : flt ((cs.getD i []).getD j 0) a = decide (fkey ((cs.getD i []).getD j 0) < fkey a) := by
    rw [flt_k ((h1 i).2 j) ha, c1 j hj, na]; simp
  have hl1 := (h1 i).1
  have hl3 := h3 i
  refine ⟨((r : Int), if s < (ks.getD i []).length ∧ fkey (f64int ((ks.getD i []).getD s 0)) = fkey a then (s : Int) else -1, false), ?_, ?_⟩
  · unfold bins_code.f
    refine Ev.pos (by rw [feq_self ha, na]; rfl) (Ev.pos (by omega) (Ev.pos (by omega) (Ev.bindc (key_f ha) ?_)))
    rw [rd1_nat, rd3_nat]
    refine Ev.bind (below_cut hl1 (h1 i).2 _ r1 r2 r3) (Ev.pos (by omega) (Ev.bind (below_cat hl3 k1 ha na s1 s2 s3) ?_))
    by_cases hs : s < (ks.getD i []).length
    · refine Ev.pos (by omega) (Ev.pos (by omega) ?_)
      rw [rd_nat, hfeq s hs]
      by_cases e : fkey (f64int ((ks.getD i []).getD s 0)) = fkey a
      · refine Ev.pos (decide_eq_true e) (Ev.some_ ?_)
        rw [if_pos ⟨hs, e⟩]
      · refine Ev.neg (by rw [decide_eq_false e]; decide) (Ev.some_ ?_)
        rw [if_neg (fun h => e h.2)]
    · refine Ev.neg (by omega) (Ev.some_ ?_)
      rw [if_neg (fun h => hs h.1)]
  · unfold thicketref20_code.f
    refine Ev.pos (by rw [feq_self ha, na]; rfl) ?_
    refine countUp (γ := Int) (g := fun c j k => thicketref20_code.l0 k (i : Int) a j cs ks c (-1) false) (n := (cs.getD i []).length) (st := fun j => ((min j r : Nat) : Int)) ?_ ?_
    · intro j hj H
      refine Ev.step (fun k => thicketref20_code.l0.eq_2 _ _ _ cs ks _ _ _ k) (Ev.pos (by omega) (Ev.pos (by omega) ?_))
      rw [rd1_nat, rdOf_nat, hflt j hj, w1 hj hl1]
      refine Ev.pos (by omega) (Ev.pos (by omega) ?_)
      by_cases e : j < r
      · refine Ev.pos (decide_eq_true (r2 j e)) ?_
        have : wrap64 (((min j r : Nat) : Int) + 1) = ((min (j + 1) r : Nat) : Int) := by
          rw [show min j r = j by omega, show min (j + 1) r = j + 1 by omega, w1 hj hl1]
        show Ev (fun k => thicketref20_code.l0 k _ _ _ cs ks (wrap64 (((min j r : Nat) : Int) + 1)) _ _) _
        rw [this]
        exact H
      · have := r3 j (by omega) hj
        refine Ev.neg (by simp only [decide_eq_true_eq]; omega) ?_
        have : min (j + 1) r = min j r := by omega
        simp only [this] at H
        exact H
    · refine Ev.step (fun k => thicketref20_code.l0.eq_2 _ _ _ cs ks _ _ _ k) (Ev.pos (by omega) (Ev.pos (by omega) ?_))
      rw [rd1_nat]
      refine Ev.neg (by omega) ?_
      have em : ((min (cs.getD i []).length r : Nat) : Int) = (r : Int) := by omega
      show Ev (fun k => thicketref20_code.l1 k _ _ _ cs ks (((min (cs.getD i []).length r : Nat) : Int)) _ _) _
      rw [em]
      refine countUp (γ := Int) (g := fun c j k => thicketref20_code.l1 k (i : Int) a j cs ks (r : Int) c false) (n := (ks.getD i []).length) (st := fun j => if s < j ∧ fkey (f64int ((ks.getD i []).getD s 0)) = fkey a then (s : Int) else -1) ?_ ?_
      · intro j hj H
        refine Ev.step (fun k => thicketref20_code.l1.eq_2 _ _ _ cs ks _ _ _ k) (Ev.pos (by omega) (Ev.pos (by omega) ?_))
        rw [rd3_nat, rd_nat, hfeq j hj, w1 hj hl3]
        refine Ev.pos (by omega) (Ev.pos (by omega) ?_)
        by_cases e : fkey (f64int ((ks.getD i []).getD j 0)) = fkey a
        · have : s = j := by
            apply Classical.byContradiction
            intro hne
            by_cases hlt : s < j
            · have p := rise2 s j hlt hj
              have q := s3 s (by omega) (by omega)
              omega
            · have := s2 j (by omega)
              omega
          subst this
          refine Ev.pos (decide_eq_true e) ?_
          rw [if_pos ⟨by omega, e⟩] at H
          exact H
        · refine Ev.neg (by rw [decide_eq_false e]; decide) ?_
          have : (s < j + 1 ∧ fkey (f64int ((ks.getD i []).getD s 0)) = fkey a) ↔ (s < j ∧ fkey (f64int ((ks.getD i []).getD s 0)) = fkey a) := by
            constructor
            · rintro ⟨p, q⟩
              refine ⟨?_, q⟩
              have : s ≠ j := fun h => e (by rw [← h]; exact q)
              omega
            · rintro ⟨p, q⟩
              exact ⟨by omega, q⟩
          simp only [this] at H
          exact H
      · refine Ev.step (fun k => thicketref20_code.l1.eq_2 _ _ _ cs ks _ _ _ k) (Ev.pos (by omega) (Ev.pos (by omega) ?_))
        rw [rd3_nat]
        exact Ev.neg (by omega) (Ev.now _)
end
end Go.Proofs.Ytmkmooifgcdocaa
