/-
  What the document's Sorted and Distinct answer: the stable order, the distinct keys' numbers.
-/
import Derived.Test.YtdhiljimmijghaaOn
import Derived.Test.YtdhiljimmijghaaOi
namespace Go.Proofs.Ytdhiljimmijghaa
set_option linter.unusedVariables false
set_option linter.unusedSimpArgs false
open Go.Sort Go.RowKit Go.Proofs.Ytdhiljimmijghaa.FAll Go.Proofs.YtdhiljimmijghaaW.PrintWords Go.Proofs.YtdhiljimmijghaaW.PrintLast Go.Proofs.YtdhiljimmijghaaW.PrintMore
theorem keyT_eq {x : Nat} (hx : x < 2 ^ 64) : keyT x = fkey x := by
  unfold keyT
  rw [key_f hx]
  rfl
theorem ltK_eq {x y : Nat} (hx : x < 2 ^ 64) (hy : y < 2 ^ 64) : ltK x y = decide (fkey x < fkey y) := by unfold ltK; rw [keyT_eq hx, keyT_eq hy]
theorem get_arr (d : List Nat) (q : Nat) (hq : q < d.length) : d.toArray[q]! = d[q] := by simp [hq]
theorem swp_bz (d : List Nat) (q : Nat) (hq : q + 1 < d.length) : ((bz d).set (q + 1) ((d[q] : Nat) : Int)).set q ((d[q + 1] : Nat) : Int) = bz (swp d.toArray (q + 1) q).toList := by
  unfold swp bz
  rw [get_arr d (q + 1) hq, get_arr d q (by omega)]
  simp only [List.setIfInBounds_toArray, List.map_set]
  rfl
theorem swp_wf {d : List Nat} (hb : ∀ x ∈ d, x < 2 ^ 64) (q : Nat) (hq : q + 1 < d.length) : ∀ x ∈ (swp d.toArray (q + 1) q).toList, x < 2 ^ 64 := by
  intro x hx
  unfold swp at hx
  rw [get_arr d (q + 1) hq, get_arr d q (by omega)] at hx
  simp only [List.setIfInBounds_toArray] at hx
  rcases List.mem_or_eq_of_mem_set hx with h | h
  · rcases List.mem_or_eq_of_mem_set h with h | h
    · exact hb x h
    · rw [h]; exact hb _ (List.getElem_mem _)
  · rw [h]; exact hb _ (List.getElem_mem _)
/-- The document's inner loop. -/
theorem rin_ev {w : List Int} (l : List Int) (i : Nat) : ∀ (q : Nat) (d : List Nat), q < d.length → d.length ≤ 17592186044416 → (∀ x ∈ d, x < 2 ^ 64) →
    Ev (fun k => thicketref06_Sorted.l0 k l (bz (insInner ltK 0 q d.toArray).toList) (wrap64 ((i : Int) + 1))) w → Ev (fun k => thicketref06_Sorted.l1 k l (bz d) (i : Int) (q : Int)) w
  | 0, d, hq, hl, hb, H => Ev.step (fun k => thicketref06_Sorted.l1.eq_2 l (bz d) _ _ k) (Ev.neg (by omega) H)
  | q + 1, d, hq, hl, hb, H => by
    have e1 : wrap64 (((q + 1 : Nat) : Int) - 1) = (q : Int) := by rw [w64 (by omega) (by omega)]; omega
    refine Ev.step (fun k => thicketref06_Sorted.l1.eq_2 l (bz d) _ _ k) (Ev.pos (by omega) (Ev.pos (by omega) (Ev.pos (by rw [List.length_map]; omega) (Ev.bindc (v := fkey d[q + 1]) ?_ ?_))))
    · rw [rd_bz d (q + 1) hq]; exact rkey_f (hb _ (List.getElem_mem hq))
    · rw [e1]
      refine Ev.pos (by omega) (Ev.pos (by rw [List.length_map]; omega) (Ev.bindc (v := fkey d[q]) ?_ ?_))
      · rw [rd_bz d q (by omega)]; exact rkey_f (hb _ (List.getElem_mem _))
      · rw [insInner, get_arr d (q + 1) hq, get_arr d q (by omega), ltK_eq (hb _ (List.getElem_mem hq)) (hb _ (List.getElem_mem _))] at H
        by_cases h : fkey d[q + 1] < fkey d[q]
        · rw [if_pos (by simp [h])] at H
          refine Ev.pos h ?_
          rw [rd_bz d (q + 1) hq, rd_bz d q (by omega), Int.toNat_natCast, Int.toNat_natCast, swp_bz d q hq]
          refine rin_ev l i q (swp d.toArray (q + 1) q).toList ?_ ?_ (swp_wf hb q hq) ?_
          · rw [Array.length_toList, Go.Sort.swp_size, List.size_toArray]; omega
          · rw [Array.length_toList, Go.Sort.swp_size, List.size_toArray]; exact hl
          · simpa using H
        · rw [if_neg (by simp [h])] at H
          exact Ev.neg h H
theorem ins_sorted {lt : Nat → Nat → Bool} (hS : SWO lt) (d : List Nat) (i : Nat) (hi : i + 1 = d.length) (hs : SortedIn lt 0 i d.toArray) : SortedIn lt 0 (i + 1) (insInner lt 0 i d.toArray) := by
  refine (insInner_spec hS swp_permIn permIn_refl permIn_trans 0 (i + 1) i (by omega) i d.toArray (Nat.zero_le _) (Nat.le_refl _) (by simp; omega) ⟨fun p q h1 h2 h3 h4 h5 => hs p q h1 h2 (by omega), fun q h1 h2 => absurd h1 (by omega)⟩).2
structure SortUp (m : List Nat) (i : Nat) (d : List Nat) : Prop where
  len : d.length = i
  st : StEq ltK (m.take i) d
  rises : SortedIn ltK 0 i d.toArray
theorem SortUp.step {m d : List Nat} {i : Nat} (h : SortUp m i d) (hi : i < m.length) : SortUp m (i + 1) (insInner ltK 0 i (d ++ [m[i]]).toArray).toList := by
  have hl : (d ++ [m[i]]).length = i + 1 := by simp [h.len]
  have st := insInner_stab swoK 0 i i (d ++ [m[i]]).toArray (Nat.le_refl _) (by simp [h.len])
  refine ⟨?_, ?_, ?_⟩
  · rw [Array.length_toList, st.size, List.size_toArray, hl]
  · rw [List.take_succ_eq_append_getElem hi]
    have := (StEq.app h.st (StEq.refl [m[i]])).trans (by simpa using st.st)
    exact this
  · rw [Array.toArray_toList]
    refine ins_sorted swoK (d ++ [m[i]]) i hl.symm (fun p q h1 h2 h3 => ?_)
    have g := h.rises p q h1 h2 h3
    have e : ∀ p, p < i → (d ++ [m[i]]).toArray[p]! = d.toArray[p]! := fun p hp => by
      rw [get_arr _ p (by omega), get_arr d p (by rw [h.len]; omega), List.getElem_append_left]
    rw [e q h3, e p (by omega)]
    exact g
theorem mem_wf {m d : List Nat} (h : StEq ltK m d) (hb : ∀ x ∈ m, x < 2 ^ 64) : ∀ x ∈ d, x < 2 ^ 64 := fun x hx => hb x ((h.mem swoK x).1 hx)
theorem rsorted_ev (m : List Nat) (hm : m.length ≤ 17592186044415) (hb : ∀ x ∈ m, x < 2 ^ 64) : Ev (fun k => thicketref06_Sorted.f k (bz m)) (bz (sortL ltK m)) := by
  unfold thicketref06_Sorted.f
  have H : ∀ n i d, i + n = m.length → SortUp m i d → Ev (fun k => thicketref06_Sorted.l0 k (bz m) (bz d) (i : Int)) (bz (sortL ltK m)) := by
    intro n
    induction n with
    | zero =>
      intro i d hi hd
      refine Ev.step (fun k => thicketref06_Sorted.l0.eq_2 (bz m) _ _ k) (Ev.neg (by rw [List.length_map]; omega) ?_)
      have h1 := hd.st
      rw [List.take_of_length_le (by omega)] at h1
      rw [sortL_unique swoK h1 (by
        have := hd.rises
        have h2 : SortedIn ltK 0 d.toArray.size d.toArray := by rw [List.size_toArray, hd.len]; exact this
        simpa using sorted_list h2)]
      exact Ev.now _
    | succ n ih =>
      intro i d hi hd
      have hlt : i < m.length := by omega
      have hbd : ∀ x ∈ d ++ [m[i]], x < 2 ^ 64 := by
        intro x hx
        rcases List.mem_append.1 hx with hx | hx
        · exact hb x (List.mem_of_mem_take ((hd.st.mem swoK x).1 hx))
        · rw [List.mem_singleton.1 hx]; exact hb _ (List.getElem_mem _)
      refine Ev.step (fun k => thicketref06_Sorted.l0.eq_2 (bz m) _ _ k) (Ev.pos (by rw [List.length_map]; omega) (Ev.pos (by omega) (Ev.pos (by rw [List.length_map, hd.len]; omega) (Ev.bindc (v := bz (d ++ [m[i]])) ?_ ?_))))
      · rw [rd_bz m i hlt]; simp [bz]
      · have e1 : wrap64 (((bz (d ++ [m[i]])).length : Int) - 1) = (i : Int) := by
          rw [List.length_map, List.length_append, hd.len, List.length_singleton, w64 (by omega) (by omega)]; omega
        rw [e1]
        refine rin_ev (bz m) i i (d ++ [m[i]]) (by simp [hd.len]) (by simp [hd.len]; omega) hbd ?_
        rw [w1 (n := m.length) hlt (by omega)]
        exact ih (i + 1) _ (by omega) (hd.step hlt)
  exact H m.length 0 [] (by omega) ⟨rfl, StEq.refl _, fun p q h1 h2 h3 => absurd h3 (by omega)⟩
/-! Distinct -/
theorem rises_take {s : List Nat} (hr : Rises ltK s) (j : Nat) (hj : j < s.length) : ∀ b ∈ s.take j, ltK s[j] b = false := by
  intro b hb
  obtain ⟨i, hi, rfl⟩ := List.mem_iff_getElem.1 hb
  rw [List.length_take] at hi
  rw [List.getElem_take]
  exact (List.pairwise_iff_getElem.1 hr) i j (by omega) hj (by omega)
theorem dist_nan {t : List Nat} {b : Nat} {ks : List Int} (h : DistinctOf t ks) (hb : isNaN b = true) : DistinctOf (t ++ [b]) ks :=
  ⟨h.rises, fun x => by rw [h.mem]; simp [hb], by rw [List.length_append]; have := h.len; omega⟩
theorem dist_same {t : List Nat} {b : Nat} {ks : List Int} (h : DistinctOf t ks) (hk : fkey b ∈ ks) : DistinctOf (t ++ [b]) ks :=
  ⟨h.rises, fun x => by
    rw [h.mem]
    constructor
    · rintro ⟨c, h1, h2, h3⟩
      exact ⟨c, List.mem_append_left _ h1, h2, h3⟩
    · rintro ⟨c, h1, h2, h3⟩
      rcases List.mem_append.1 h1 with h1 | h1
      · exact ⟨c, h1, h2, h3⟩
      · rw [List.mem_singleton] at h1
        subst h1
        rw [h3] at hk
        exact (h.mem x).1 hk, by rw [List.length_append]; have := h.len; omega⟩
theorem dist_new {t : List Nat} {b : Nat} {ks : List Int} (h : DistinctOf t ks) (hb : isNaN b = false) (hk : ∀ x ∈ ks, x < fkey b) : DistinctOf (t ++ [b]) (ks ++ [fkey b]) :=
  ⟨List.pairwise_append.2 ⟨h.rises, List.pairwise_singleton .., fun x hx y hy => by rw [List.mem_singleton.1 hy]; exact hk x hx⟩, fun x => by
    rw [List.mem_append, h.mem]
    constructor
    · rintro (⟨c, h1, h2, h3⟩ | h1)
      · exact ⟨c, List.mem_append_left _ h1, h2, h3⟩
      · exact ⟨b, List.mem_append_right _ (List.mem_singleton.2 rfl), hb, (List.mem_singleton.1 h1).symm⟩
    · rintro ⟨c, h1, h2, h3⟩
      rcases List.mem_append.1 h1 with h1 | h1
      · exact .inl ⟨c, h1, h2, h3⟩
      · rw [List.mem_singleton] at h1
        subst h1
        exact .inr (List.mem_singleton.2 h3.symm), by rw [List.length_append, List.length_append]; have := h.len; simp only [List.length_singleton]; omega⟩
theorem rises_last {ks : List Int} (h : ks.Pairwise (· < ·)) (p : Nat) (hp : p + 1 = ks.length) : ∀ x ∈ ks, x ≤ ks[p] := by
  intro x hx
  obtain ⟨i, hi, rfl⟩ := List.mem_iff_getElem.1 hx
  by_cases e : i = p
  · subst e; omega
  · have := (List.pairwise_iff_getElem.1 h) i p hi (by omega) (by omega)
    omega
theorem atbz_get (ks : List Int) (p : Nat) (hp : p < ks.length) : rd (bz (ks.map atBits)) (p : Int) = ((atBits ks[p] : Nat) : Int) := by
  rw [rd_bz (ks.map atBits) p (by rw [List.length_map]; exact hp), List.getElem_map]
theorem rdist_loop (s : List Nat) (hs : s.length ≤ 17592186044415) (hb : ∀ x ∈ s, x < 2 ^ 64) (hr : Rises ltK s) (w : List Int) (hw : ∀ ks, DistinctOf s ks → bz (ks.map atBits) = w) :
    ∀ n j ks, j + n = s.length → DistinctOf (s.take j) ks → Ev (fun k => thicketref06_Distinct.l0 k (bz s) (bz (ks.map atBits)) (j : Int)) w := by
  intro n
  induction n with
  | zero =>
    intro j ks hj hd
    rw [List.take_of_length_le (by omega)] at hd
    refine Ev.step (fun k => thicketref06_Distinct.l0.eq_2 (bz s) _ _ k) (Ev.neg (by rw [List.length_map]; omega) ?_)
    rw [hw ks hd]
    exact Ev.now _
  | succ n ih =>
    intro j ks hj hd
    have hlt : j < s.length := by omega
    have hbj : s[j] < 2 ^ 64 := hb _ (List.getElem_mem hlt)
    have hlen : ks.length ≤ j := by have := hd.len; rw [List.length_take] at this; omega
    have hkb : ∀ x ∈ ks, 0 ≤ x ∧ x < 18437736874454810625 ∧ x ≤ fkey s[j] := by
      intro x hx
      obtain ⟨b, h1, h2, h3⟩ := (hd.mem x).1 hx
      have hb64 := hb b (List.mem_of_mem_take h1)
      have h4 := rises_take hr j hlt b h1
      rw [ltK_eq hbj hb64] at h4
      have h5 := of_decide_eq_false h4
      have h6 := fkey_le (b := b) (by omega) h2
      have h7 := fkey_bounds (b := b) (by omega)
      omega
    have hnext := ih (j + 1)
    rw [List.take_succ_eq_append_getElem hlt] at hnext
    have skip : ∀ v, DistinctOf (s.take j ++ [s[j]]) ks → v = true → Ev (fun k => thicketref06_Distinct.j1 k (bz s) (bz (ks.map atBits)) (j : Int) v) w := by
      rintro v hd2 rfl
      refine Ev.step (fun k => thicketref06_Distinct.j1.eq_2 (bz s) _ _ _ k) (Ev.pos rfl ?_)
      rw [w1 (n := s.length) hlt (by omega)]
      exact hnext ks (by omega) hd2
    have add : ∀ v, isNaN s[j] = false → (∀ x ∈ ks, x < fkey s[j]) → v = false → Ev (fun k => thicketref06_Distinct.j1 k (bz s) (bz (ks.map atBits)) (j : Int) v) w := by
      rintro v hn hlast rfl
      have h6 := fkey_le (b := s[j]) (by omega) hn
      have h7 := fkey_bounds (b := s[j]) (by omega)
      refine Ev.step (fun k => thicketref06_Distinct.j1.eq_2 (bz s) _ _ _ k) (Ev.neg (by decide) (Ev.pos (by omega) (Ev.pos (by rw [List.length_map]; omega) (Ev.bindc (v := fkey s[j]) ?_ (Ev.bindc (rat_f h7.1 (by omega)) (Ev.pos (by rw [List.length_map, List.length_map]; omega) ?_))))))
      · rw [rd_bz s j hlt]; exact rkey_f hbj
      · rw [w1 (n := s.length) hlt (by omega)]
        have e : bz (ks.map atBits) ++ [((atBits (fkey s[j]) : Nat) : Int)] = bz ((ks ++ [fkey s[j]]).map atBits) := by simp [bz]
        have := hnext (ks ++ [fkey s[j]]) (by omega) (dist_new hd hn hlast)
        rw [← e] at this
        exact this
    refine Ev.step (fun k => thicketref06_Distinct.l0.eq_2 (bz s) _ _ k) (Ev.pos (by rw [List.length_map]; omega) (Ev.pos (by omega) (Ev.bindc (v := isNaN s[j]) (by rw [rd_bz s j hlt]; exact rnan_f hbj) ?_)))
    by_cases hn : isNaN s[j] = true
    · exact Ev.pos hn (skip true (dist_nan hd hn) rfl)
    · have hn' : isNaN s[j] = false := by simpa using hn
      refine Ev.neg hn ?_
      by_cases h0 : ks.length = 0
      · refine Ev.neg (by rw [List.length_map, List.length_map]; omega) (add false hn' (fun x hx => ?_) rfl)
        rw [List.eq_nil_of_length_eq_zero h0] at hx
        cases hx
      · obtain ⟨p, hp⟩ : ∃ p, p + 1 = ks.length := ⟨ks.length - 1, by omega⟩
        have ep : wrap64 (((bz (ks.map atBits)).length : Int) - 1) = (p : Int) := by rw [List.length_map, List.length_map, w64 (by omega) (by omega)]; omega
        have hkp := hkb ks[p] (List.getElem_mem _)
        refine Ev.pos (by rw [List.length_map, List.length_map]; omega) ?_
        rw [ep]
        refine Ev.pos (by omega) (Ev.pos (by rw [List.length_map, List.length_map]; omega) (Ev.bindc (v := ks[p]) ?_ (Ev.bindc (v := fkey s[j]) (by rw [rd_bz s j hlt]; exact rkey_f hbj) ?_)))
        · rw [atbz_get ks p (by omega), rkey_f (atBits_lt _ hkp.1 (by omega)), fkey_at _ hkp.1 (by omega)]
        · by_cases e : ks[p] = fkey s[j]
          · exact skip _ (dist_same hd (by rw [← e]; exact List.getElem_mem _)) (by rw [beq_iff_eq]; exact e)
          · refine add _ hn' (fun x hx => ?_) (by rw [beq_eq_false_iff_ne]; exact e)
            have := rises_last hd.rises p hp x hx
            omega
theorem rdistinct_ev (m : List Nat) (hm : m.length ≤ 17592186044415) (hb : ∀ x ∈ m, x < 2 ^ 64) : Ev (fun k => thicketref06_Distinct.f k (bz m)) (bz (distinctL m)) := by
  unfold thicketref06_Distinct.f
  have h1 := sortL_st swoK m
  have hl : (sortL ltK m).length = m.length := by
    unfold sortL
    have := (insertion_stab swoK m.toArray 0 m.length (by simp)).size
    rw [Array.length_toList, this, List.size_toArray]
  refine Ev.bind (rsorted_ev m hm hb) (rdist_loop (sortL ltK m) (by omega) (mem_wf h1 hb) (sortL_rises swoK m) _ (fun ks hks => ?_) _ 0 [] (by rw [Nat.zero_add]) ⟨List.Pairwise.nil, fun x => by simp, Nat.le_refl _⟩)
  have h2 : DistinctOf m ks := ⟨hks.rises, fun x => by
    rw [hks.mem]
    constructor
    · rintro ⟨c, h3, h4⟩; exact ⟨c, (h1.mem swoK c).1 h3, h4⟩
    · rintro ⟨c, h3, h4⟩; exact ⟨c, (h1.mem swoK c).2 h3, h4⟩, by have := hks.len; omega⟩
  rw [distinct_unique h2 (keysL_of m)]
  rfl
theorem distinctL_wf (m : List Nat) (hb : ∀ x ∈ m, x < 2 ^ 64) : ∀ x ∈ distinctL m, x < 2 ^ 64 := by
  intro x hx
  obtain ⟨y, hy, rfl⟩ := List.mem_map.1 hx
  obtain ⟨b, h1, h2, h3⟩ := ((keysL_of m).mem y).1 hy
  have h7 := fkey_bounds (b := b) (hb b h1)
  rw [← h3]
  exact atBits_lt _ h7.1 h7.2
theorem distinctL_len (m : List Nat) : (distinctL m).length ≤ m.length := by
  unfold distinctL
  rw [List.length_map]
  exact (keysL_of m).len
theorem sortL_len (m : List Nat) : (sortL ltK m).length = m.length := by
  unfold sortL
  have := (insertion_stab swoK m.toArray 0 m.length (by simp)).size
  rw [Array.length_toList, this, List.size_toArray]
end Go.Proofs.Ytdhiljimmijghaa
