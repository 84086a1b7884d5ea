/-
  The plain law of BinsCodes: over numbers and lists alone.
-/
-- SAYS The program's Codes, Point and Right answer what the document's answer, for all bins, vectors, features and codes.
import Derived.Test.YtmkmooifgcdocaaKBinsCodes
import Derived.Test.YtmkmooifgcdocaaBc
namespace Go.Proofs.Ytmkmooifgcdocaa.binsCodes
open Go.RowKit Go.Proofs.Ytmkmooifgcdocaa.FAll Go.Proofs.YtmkmooifgcdocaaW.PrintWords Go.Proofs.YtmkmooifgcdocaaW.PrintLast Go.Proofs.YtmkmooifgcdocaaW.PrintMore
set_option linter.unusedVariables false

section
variable {cs : List (List Nat)} {ks : List (List Int)}

theorem codes_same {v : List Nat} (h1 : Rows1 cs) (h3 : Rows3 ks) (hc : cs.length ≤ 17592186044416) (hk : ks.length ≤ 17592186044416) (hv : ∀ j, v.getD j 0 < 18446744073709551616) :
    ∃ w : List S28 × Int, w.1.length ≤ 65536 ∧ Ev (fun k => bins_Codes.f k cs ks v) w ∧ Ev (fun k => thicketref20_Codes.f k cs ks v) w := by
  have p := right_f h1 h3 hc hk
  have q := rright_f h1 h3 hc hk
  unfold bins_Codes.f thicketref20_Codes.f
  cases hr : right cs ks
  · rw [hr] at p q
    exact ⟨([], 200), by simp, Ev.bind p (Ev.neg (by decide) (Ev.now _)), Ev.bind q (Ev.neg (by decide) (Ev.now _))⟩
  rw [hr] at p q
  have R := Right.of hr
  have hle := R.le
  by_cases e : v.length = cs.length
  rotate_left
  · exact ⟨([], 72), by simp, Ev.bind p (Ev.pos rfl (Ev.neg (by omega) (Ev.now _))), Ev.bind q (Ev.pos rfl (Ev.neg (by omega) (Ev.now _)))⟩
  have H : ∀ d j (acc : List S28), j + d = v.length → acc.length = j → ∃ w : List S28 × Int, w.1.length ≤ 65536 ∧ Ev (fun k => bins_Codes.l0 k acc v (v.length : Int) (j : Int) cs ks) w ∧ Ev (fun k => thicketref20_Codes.l0 k v acc (j : Int) cs ks) w := by
    intro d
    induction d with
    | zero =>
      intro j acc hj ha
      refine ⟨(acc, 0), by simp only; omega, ?_, ?_⟩
      · exact Ev.step (fun k => bins_Codes.l0.eq_2 _ _ _ _ cs ks k) (Ev.neg (by omega) (Ev.now _))
      · exact Ev.step (fun k => thicketref20_Codes.l0.eq_2 _ _ _ cs ks k) (Ev.neg (by omega) (Ev.now _))
    | succ d ih =>
      intro j acc hj ha
      obtain ⟨c, c1, c2⟩ := code_same h1 h3 R j (by omega) (hv j)
      obtain ⟨w, w0, w1', w2⟩ := ih (j + 1) (acc ++ [⟨c.1, c.2.1, c.2.2⟩]) (by omega) (by simp; omega)
      have hl : acc.length < 5864062014805 := by omega
      refine ⟨w, w0, ?_, ?_⟩
      · refine Ev.step (fun k => bins_Codes.l0.eq_2 _ _ _ _ cs ks k) (Ev.pos (by omega) (Ev.pos (by omega) (Ev.pos (by omega) ?_)))
        rw [w1 (n := v.length) (by omega) (by omega)]
        exact Ev.bind c1 (Ev.pos hl w1')
      · refine Ev.step (fun k => thicketref20_Codes.l0.eq_2 _ _ _ cs ks k) (Ev.pos (by omega) (Ev.pos (by omega) ?_))
        rw [w1 (n := v.length) (by omega) (by omega)]
        exact Ev.bind c2 (Ev.pos hl w2)
  obtain ⟨w, w0, w1', w2⟩ := H v.length 0 [] (by omega) rfl
  exact ⟨w, w0, Ev.bind p (Ev.pos rfl (Ev.pos (by omega) w1')), Ev.bind q (Ev.pos rfl (Ev.pos (by omega) w2))⟩

theorem same_codes (l : List S28) (hl : l.length ≤ 65536) : Ev (fun k => thicketlaw20_codes.f k l l) true := by
  unfold thicketlaw20_codes.f
  refine Ev.pos rfl ?_
  refine countUp (γ := Unit) (g := fun _ j k => thicketlaw20_codes.l0 k l l j) (n := l.length) (st := fun _ => ()) ?_ ?_
  · intro j hj H
    refine Ev.step (fun k => thicketlaw20_codes.l0.eq_2 l l _ k) (Ev.pos (by omega) (Ev.pos (by omega) (Ev.pos (by omega) ?_)))
    rw [w1 (n := l.length) (by omega) (by omega)]
    exact Ev.neg (by simp) H
  · exact Ev.step (fun k => thicketlaw20_codes.l0.eq_2 l l _ k) (Ev.neg (by omega) (Ev.now _))

/-- what Point's answers have to do with one another -/
structure Pts (p : Nat × Int) (q : Int × Int) : Prop where
  lt : p.1 < 18446744073709551616
  err : p.2 = q.2
  is : q.1 = (p.1 : Int) ∨ (isNaN p.1 = true ∧ q.1 = 9218868437227405313)

/-- the last loop: over the same candidates -/
theorem pick_same (h1 : Rows1 cs) (h3 : Rows3 ks) (R : Right cs ks) {i : Nat} (hi : i < cs.length) (P : List Nat) (hP : ∀ x ∈ P, x < 18446744073709551616) (hn : P.length ≤ 4) (b c : Int) (m : Bool) :
    ∃ p q, Pts p q ∧ Ev (fun k => bins_Point.l0 k (i : Int) P (P.length : Int) 0 cs ks b c m) p ∧ Ev (fun k => thicketref20_Point.l0 k (i : Int) (P.map fun x : Nat => (x : Int)) 0 cs ks b c m) q := by
  have H : ∀ d j, j + d = P.length → ∃ p q, Pts p q ∧ Ev (fun k => bins_Point.l0 k (i : Int) P (P.length : Int) (j : Int) cs ks b c m) p ∧ Ev (fun k => thicketref20_Point.l0 k (i : Int) (P.map fun x : Nat => (x : Int)) (j : Int) cs ks b c m) q := by
    intro d
    induction d with
    | zero =>
      intro j hj
      refine ⟨(0, 200), (0, 200), ⟨by decide, rfl, Or.inl rfl⟩, ?_, ?_⟩
      · exact Ev.step (fun k => bins_Point.l0.eq_2 _ _ _ _ cs ks b c m k) (Ev.neg (by omega) (Ev.now _))
      · exact Ev.step (fun k => thicketref20_Point.l0.eq_2 _ _ _ cs ks b c m k) (Ev.neg (by rw [List.length_map]; omega) (Ev.now _))
    | succ d ih =>
      intro j hj
      have hx : P.getD j 0 < 18446744073709551616 := by
        rw [List.getD_eq_getElem?_getD, List.getElem?_eq_getElem (show j < P.length by omega)]
        exact hP _ (List.getElem_mem _)
      have hq : rd (P.map fun x : Nat => (x : Int)) (j : Int) = ((P.getD j 0 : Nat) : Int) := by
        rw [rd_nat, List.getD_eq_getElem?_getD, List.getD_eq_getElem?_getD, List.getElem?_map, List.getElem?_eq_getElem (show j < P.length by omega)]
        rfl
      obtain ⟨v, v1, v2⟩ := code_same h1 h3 R i hi hx
      obtain ⟨p, q, pq, hp, hq'⟩ := ih (j + 1) (by omega)
      by_cases e : (v.1 == b && (v.2.1 == c && (v.2.2 == m))) = true
      · refine ⟨(P.getD j 0, 0), ((P.getD j 0 : Nat), 0), ⟨hx, rfl, Or.inl rfl⟩, ?_, ?_⟩
        · exact Ev.step (fun k => bins_Point.l0.eq_2 _ _ _ _ cs ks b c m k) (Ev.pos (by omega) (Ev.pos (by omega) (Ev.pos (by omega) (Ev.bind v1 (Ev.pos e (Ev.now _))))))
        · refine Ev.step (fun k => thicketref20_Point.l0.eq_2 _ _ _ cs ks b c m k) (Ev.pos (by rw [List.length_map]; omega) (Ev.pos (by omega) ?_))
          rw [hq]
          exact Ev.bind v2 (Ev.pos e (Ev.now _))
      · refine ⟨p, q, pq, ?_, ?_⟩
        · refine Ev.step (fun k => bins_Point.l0.eq_2 _ _ _ _ cs ks b c m k) (Ev.pos (by omega) (Ev.pos (by omega) (Ev.pos (by omega) (Ev.bind v1 (Ev.neg e ?_)))))
          rw [w1 (n := P.length) (by omega) (by omega)]
          exact hp
        · refine Ev.step (fun k => thicketref20_Point.l0.eq_2 _ _ _ cs ks b c m k) (Ev.pos (by rw [List.length_map]; omega) (Ev.pos (by omega) ?_))
          rw [hq, w1 (n := P.length) (by omega) (by omega)]
          exact Ev.bind v2 (Ev.neg e hq')
  exact H P.length 0 (by omega)

theorem pick2 (h1 : Rows1 cs) (h3 : Rows3 ks) (R : Right cs ks) {i : Nat} (hi : i < cs.length) (P : List Nat) (hP : ∀ x ∈ P, x < 18446744073709551616) (hn : P.length ≤ 4) (b c : Int) (m : Bool) :
    ∃ p q, Pts p q ∧ Ev (fun k => bins_Point.j2 k (i : Int) P cs ks b c m) p ∧ Ev (fun k => thicketref20_Point.j2 k (i : Int) (P.map fun x : Nat => (x : Int)) cs ks b c m) q := by
  obtain ⟨p, q, h, hp, hq⟩ := pick_same h1 h3 R hi P hP hn b c m
  exact ⟨p, q, h, Ev.step (fun k => bins_Point.j2.eq_2 _ _ cs ks b c m k) hp, Ev.step (fun k => thicketref20_Point.j2.eq_2 _ _ cs ks b c m k) hq⟩

theorem cut_no_nan {i j : Nat} (R : Right cs ks) (hi : i < cs.length) (hj : j < (cs.getD i []).length) : isNaN ((cs.getD i []).getD j 0) = false := by
  have := R.cut i hi j hj
  unfold goodCut at this
  simp only [Bool.and_eq_true, Bool.not_eq_true'] at this
  exact this.1.1

/-- behind the first two candidates: the row of cuts is not empty -/
theorem pick1 (h1 : Rows1 cs) (h3 : Rows3 ks) (R : Right cs ks) {i : Nat} (hi : i < cs.length) (P : List Nat) (hP : ∀ x ∈ P, x < 18446744073709551616) (hn : P.length ≤ 2) (b c : Int) (m : Bool)
    (h0 : (cs.getD i []).length ≠ 0) (hb0 : 0 ≤ b) (hb : b ≤ ((cs.getD i []).length : Int)) :
    ∃ p q, Pts p q ∧ Ev (fun k => bins_Point.j1 k (i : Int) P (cs.getD i []) cs ks b c m) p ∧ Ev (fun k => thicketref20_Point.j1 k (i : Int) (P.map fun x : Nat => (x : Int)) (cs.getD i []) cs ks b c m) q := by
  by_cases hb1 : b > 0
  rotate_left
  · obtain ⟨p, q, h, hp, hq⟩ := pick2 h1 h3 R hi P hP (by omega) b c m
    exact ⟨p, q, h, Ev.step (fun k => bins_Point.j1.eq_2 _ _ _ cs ks b c m k) (Ev.neg hb1 (Ev.neg (by omega) hp)), Ev.step (fun k => thicketref20_Point.j1.eq_2 _ _ _ cs ks b c m k) (Ev.neg hb1 hq)⟩
  obtain ⟨n, rfl⟩ : ∃ n : Nat, b = (n : Int) := ⟨b.toNat, by omega⟩
  have hl := (h1 i).1
  have ha := (h1 i).2 (n - 1)
  have na := cut_no_nan R hi (show n - 1 < (cs.getD i []).length by omega)
  have hw : wrap64 ((n : Int) - 1) = ((n - 1 : Nat) : Int) := by rw [w64 (by omega) (by omega)]; omega
  have hk := fkey_bounds (b := (cs.getD i []).getD (n - 1) 0) (by omega)
  have hk2 := fkey_le (b := (cs.getD i []).getD (n - 1) 0) (by omega) na
  by_cases e : fkey ((cs.getD i []).getD (n - 1) 0) = 18437736874454810624
  · obtain ⟨p, q, h, hp, hq⟩ := pick2 h1 h3 R hi P hP (by omega) (n : Int) c m
    refine ⟨p, q, h, ?_, ?_⟩
    · refine Ev.step (fun k => bins_Point.j1.eq_2 _ _ _ cs ks _ c m k) (Ev.pos hb1 ?_)
      rw [hw]
      refine Ev.pos (by omega) (Ev.pos (by omega) (Ev.bindc (next_f ha na) ?_))
      rw [rdOf_nat, if_pos e]
      exact Ev.neg (by decide) (Ev.neg (by omega) hp)
    · refine Ev.step (fun k => thicketref20_Point.j1.eq_2 _ _ _ cs ks _ c m k) (Ev.pos hb1 ?_)
      rw [hw]
      refine Ev.pos (by omega) (Ev.pos (by omega) (Ev.bindc (rnext_f ha na) ?_))
      rw [rdOf_nat, if_pos e]
      exact Ev.neg (by decide) hq
  · obtain ⟨p, q, h, hp, hq⟩ := pick2 h1 h3 R hi (P ++ [atBits (fkey ((cs.getD i []).getD (n - 1) 0) + 1)]) (by
      intro x hx
      rcases List.mem_append.1 hx with hx | hx
      · exact hP x hx
      · rw [List.mem_singleton.1 hx]; exact atBits_lt _ (by omega) (by omega)) (by rw [List.length_append]; simp only [List.length_singleton]; omega) (n : Int) c m
    refine ⟨p, q, h, ?_, ?_⟩
    · refine Ev.step (fun k => bins_Point.j1.eq_2 _ _ _ cs ks _ c m k) (Ev.pos hb1 ?_)
      rw [hw]
      refine Ev.pos (by omega) (Ev.pos (by omega) (Ev.bindc (next_f ha na) ?_))
      rw [rdOf_nat, if_neg e]
      exact Ev.pos rfl (Ev.pos (by omega) (Ev.bindc rfl (Ev.neg (by omega) hp)))
    · refine Ev.step (fun k => thicketref20_Point.j1.eq_2 _ _ _ cs ks _ c m k) (Ev.pos hb1 ?_)
      rw [hw]
      refine Ev.pos (by omega) (Ev.pos (by omega) (Ev.bindc (rnext_f ha na) ?_))
      rw [rdOf_nat, if_neg e]
      rw [List.map_append] at hq
      exact Ev.pos rfl (Ev.pos (by rw [List.length_map]; omega) hq)

theorem fits_same (x : Int) (b c : Int) (m : Bool) : ∀ r, bins_fits.f cs ks x b c m = some r → thicketref20_fits.f cs ks x b c m = some r := by
  intro r
  unfold bins_fits.f thicketref20_fits.f
  cases m
  · exact fun h => h
  · rw [if_pos rfl, if_pos rfl]
    intro h
    rw [← h]
    by_cases e : b = 0
    · rw [if_pos e, e]; simp
    · rw [if_neg e]; simp [e]

theorem fits_f (b c : Int) {i : Nat} (hi : i < cs.length) (hk : i < ks.length) : ∃ r, bins_fits.f cs ks (i : Int) b c false = some r ∧ (r = true → 0 ≤ b ∧ b ≤ ((cs.getD i []).length : Int) ∧ -1 ≤ c ∧ c < ((ks.getD i []).length : Int)) := by
  unfold bins_fits.f
  rw [if_neg (by decide)]
  by_cases h1 : b ≥ 0
  rotate_left
  · rw [if_neg h1]; exact ⟨false, rfl, fun h => by cases h⟩
  rw [if_pos h1, if_pos (by omega), if_pos (by omega), rd1_nat]
  by_cases h2 : b ≤ ((cs.getD i []).length : Int)
  rotate_left
  · rw [if_neg h2]; exact ⟨false, rfl, fun h => by cases h⟩
  rw [if_pos h2]
  by_cases h3 : c ≥ -1
  rotate_left
  · rw [if_neg h3]; exact ⟨false, rfl, fun h => by cases h⟩
  rw [if_pos h3, if_pos (by omega), rd3_nat]
  exact ⟨_, rfl, fun h => ⟨h1, h2, h3, of_decide_eq_true h⟩⟩

theorem point_same (h1 : Rows1 cs) (h3 : Rows3 ks) (hc : cs.length ≤ 17592186044416) (hk : ks.length ≤ 17592186044416) (x b c : Int) (m : Bool) :
    ∃ p q, Pts p q ∧ Ev (fun k => bins_Point.f k cs ks x b c m) p ∧ Ev (fun k => thicketref20_Point.f k cs ks x b c m) q := by
  have p := right_f h1 h3 hc hk
  have q := rright_f h1 h3 hc hk
  unfold bins_Point.f thicketref20_Point.f
  cases hr : right cs ks
  · rw [hr] at p q
    exact ⟨(0, 200), (0, 200), ⟨by decide, rfl, Or.inl rfl⟩, Ev.bind p (Ev.neg (by decide) (Ev.now _)), Ev.bind q (Ev.neg (by decide) (Ev.now _))⟩
  rw [hr] at p q
  have R := Right.of hr
  have heq := R.eq
  by_cases e0 : x < 0
  · exact ⟨(0, 2), (0, 2), ⟨by decide, rfl, Or.inl rfl⟩, Ev.bind p (Ev.pos rfl (Ev.pos e0 (Ev.step (fun k => bins_Point.j0.eq_2 _ _ cs ks b c m k) (Ev.pos rfl (Ev.now _))))), Ev.bind q (Ev.pos rfl (Ev.pos e0 (Ev.step (fun k => thicketref20_Point.j0.eq_2 _ _ cs ks b c m k) (Ev.pos rfl (Ev.now _)))))⟩
  by_cases e1 : x ≥ (cs.length : Int)
  · exact ⟨(0, 2), (0, 2), ⟨by decide, rfl, Or.inl rfl⟩, Ev.bind p (Ev.pos rfl (Ev.neg e0 (Ev.step (fun k => bins_Point.j0.eq_2 _ _ cs ks b c m k) (Ev.pos (decide_eq_true e1) (Ev.now _))))), Ev.bind q (Ev.pos rfl (Ev.neg e0 (Ev.step (fun k => thicketref20_Point.j0.eq_2 _ _ cs ks b c m k) (Ev.pos (decide_eq_true e1) (Ev.now _)))))⟩
  obtain ⟨i, rfl⟩ : ∃ i : Nat, x = (i : Int) := ⟨x.toNat, by omega⟩
  have hi : i < cs.length := by omega
  suffices H : ∃ p q, Pts p q ∧ Ev (fun k => bins_Point.j0 k (i : Int) (decide ((i : Int) ≥ (cs.length : Int))) cs ks b c m) p ∧ Ev (fun k => thicketref20_Point.j0 k (i : Int) (decide ((i : Int) ≥ (cs.length : Int))) cs ks b c m) q by
    obtain ⟨v, w, hvw, hv, hw⟩ := H
    exact ⟨v, w, hvw, Ev.bind p (Ev.pos rfl (Ev.neg e0 hv)), Ev.bind q (Ev.pos rfl (Ev.neg e0 hw))⟩
  rw [decide_eq_false e1]
  have hs (g : Nat → Option (Nat × Int)) (v : Nat × Int) (h : Ev (fun k => (bins_fits.f cs ks (i : Int) b c m).bind fun t187 => if t187 = true then g k else some (0, 200)) v) : True := trivial
  cases m
  rotate_left
  · -- missing
    by_cases hf : bins_fits.f cs ks (i : Int) b c true = some true
    · refine ⟨(9221120237041090561, 0), (9218868437227405313, 0), ⟨by decide, rfl, Or.inr ⟨by decide +kernel, rfl⟩⟩, ?_, ?_⟩
      · exact Ev.step (fun k => bins_Point.j0.eq_2 _ _ cs ks b c _ k) (Ev.neg (by decide) (Ev.bindc hf (Ev.pos rfl (Ev.pos rfl (Ev.bindc rfl (Ev.now _))))))
      · exact Ev.step (fun k => thicketref20_Point.j0.eq_2 _ _ cs ks b c _ k) (Ev.neg (by decide) (Ev.bindc (fits_same _ _ _ _ _ hf) (Ev.pos rfl (Ev.pos rfl (Ev.now _)))))
    · have hf' : bins_fits.f cs ks (i : Int) b c true = some false := by
        unfold bins_fits.f at hf ⊢
        rw [if_pos rfl] at hf ⊢
        cases h : (b == 0 && (c == -1 && true))
        · rfl
        · rw [h] at hf; exact absurd rfl hf
      refine ⟨(0, 200), (0, 200), ⟨by decide, rfl, Or.inl rfl⟩, ?_, ?_⟩
      · exact Ev.step (fun k => bins_Point.j0.eq_2 _ _ cs ks b c _ k) (Ev.neg (by decide) (Ev.bindc hf' (Ev.neg (by decide) (Ev.now _))))
      · exact Ev.step (fun k => thicketref20_Point.j0.eq_2 _ _ cs ks b c _ k) (Ev.neg (by decide) (Ev.bindc (fits_same _ _ _ _ _ hf') (Ev.neg (by decide) (Ev.now _))))
  obtain ⟨r, hf, hfit⟩ := fits_f (cs := cs) (ks := ks) b c hi (by omega)
  cases r
  · refine ⟨(0, 200), (0, 200), ⟨by decide, rfl, Or.inl rfl⟩, ?_, ?_⟩
    · exact Ev.step (fun k => bins_Point.j0.eq_2 _ _ cs ks b c _ k) (Ev.neg (by decide) (Ev.bindc hf (Ev.neg (by decide) (Ev.now _))))
    · exact Ev.step (fun k => thicketref20_Point.j0.eq_2 _ _ cs ks b c _ k) (Ev.neg (by decide) (Ev.bindc (fits_same _ _ _ _ _ hf) (Ev.neg (by decide) (Ev.now _))))
  obtain ⟨hb0, hb1, hc0, hc1⟩ := hfit rfl
  have hfr := fits_same _ _ _ _ _ hf
  by_cases hcat : c ≥ 0
  · obtain ⟨v, w, hvw, hv, hw⟩ := pick2 h1 h3 R hi [f64int ((ks.getD i []).getD c.toNat 0)] (by intro x hx; rw [List.mem_singleton.1 hx]; exact f64int_lt _) (by simp) b c false
    refine ⟨v, w, hvw, ?_, ?_⟩
    · refine Ev.step (fun k => bins_Point.j0.eq_2 _ _ cs ks b c _ k) (Ev.neg (by decide) (Ev.bindc hf (Ev.pos rfl (Ev.neg (by decide) (Ev.pos (by omega) (Ev.pos (by omega) (Ev.pos hcat (Ev.pos (by omega) (Ev.pos hcat ?_)))))))))
      rw [rd3_nat]
      exact Ev.pos hc1 (Ev.pos (by decide) hv)
    · refine Ev.step (fun k => thicketref20_Point.j0.eq_2 _ _ cs ks b c _ k) (Ev.neg (by decide) (Ev.bindc hfr (Ev.pos rfl (Ev.neg (by decide) (Ev.pos (by omega) (Ev.pos (by omega) (Ev.pos hcat (Ev.pos (by omega) (Ev.pos hcat ?_)))))))))
      rw [rd3_nat]
      exact Ev.pos hc1 (Ev.pos (by decide) hw)
  -- the neighbours of the cuts
  by_cases h0 : (cs.getD i []).length = 0
  · obtain ⟨v, w, hvw, hv, hw⟩ := pick2 h1 h3 R hi [0] (by intro x hx; rw [List.mem_singleton.1 hx]; decide) (by simp) b c false
    refine ⟨v, w, hvw, ?_, ?_⟩
    · refine Ev.step (fun k => bins_Point.j0.eq_2 _ _ cs ks b c _ k) (Ev.neg (by decide) (Ev.bindc hf (Ev.pos rfl (Ev.neg (by decide) (Ev.pos (by omega) (Ev.pos (by omega) (Ev.neg hcat ?_)))))))
      rw [rd1_nat]
      exact Ev.neg (by omega) (Ev.step (fun k => bins_Point.j1.eq_2 _ _ _ cs ks _ _ _ k) (Ev.neg (by omega) (Ev.pos (by omega) (Ev.pos (by decide) hv))))
    · refine Ev.step (fun k => thicketref20_Point.j0.eq_2 _ _ cs ks b c _ k) (Ev.neg (by decide) (Ev.bindc hfr (Ev.pos rfl (Ev.neg (by decide) (Ev.pos (by omega) (Ev.pos (by omega) (Ev.neg hcat ?_)))))))
      rw [rd1_nat]
      exact Ev.pos (by omega) (Ev.pos (by decide) hw)
  by_cases hlt : b < ((cs.getD i []).length : Int)
  rotate_left
  · obtain ⟨v, w, hvw, hv, hw⟩ := pick1 h1 h3 R hi [] (by simp) (by simp) b c false h0 hb0 hb1
    refine ⟨v, w, hvw, ?_, ?_⟩
    · refine Ev.step (fun k => bins_Point.j0.eq_2 _ _ cs ks b c _ k) (Ev.neg (by decide) (Ev.bindc hf (Ev.pos rfl (Ev.neg (by decide) (Ev.pos (by omega) (Ev.pos (by omega) (Ev.neg hcat ?_)))))))
      rw [rd1_nat]
      exact Ev.neg hlt hv
    · refine Ev.step (fun k => thicketref20_Point.j0.eq_2 _ _ cs ks b c _ k) (Ev.neg (by decide) (Ev.bindc hfr (Ev.pos rfl (Ev.neg (by decide) (Ev.pos (by omega) (Ev.pos (by omega) (Ev.neg hcat ?_)))))))
      rw [rd1_nat]
      exact Ev.neg (by omega) (Ev.neg hlt hw)
  obtain ⟨n, rfl⟩ : ∃ n : Nat, b = (n : Int) := ⟨b.toNat, by omega⟩
  have ha := (h1 i).2 n
  have na := cut_no_nan R hi (show n < (cs.getD i []).length by omega)
  have hkb := fkey_bounds (b := (cs.getD i []).getD n 0) (by omega)
  have hkl := fkey_le (b := (cs.getD i []).getD n 0) (by omega) na
  by_cases e : fkey ((cs.getD i []).getD n 0) = 0
  · obtain ⟨v, w, hvw, hv, hw⟩ := pick1 h1 h3 R hi [(cs.getD i []).getD n 0] (by intro x hx; rw [List.mem_singleton.1 hx]; exact ha) (by simp) (n : Int) c false h0 hb0 hb1
    refine ⟨v, w, hvw, ?_, ?_⟩
    · refine Ev.step (fun k => bins_Point.j0.eq_2 _ _ cs ks _ c _ k) (Ev.neg (by decide) (Ev.bindc hf (Ev.pos rfl (Ev.neg (by decide) (Ev.pos (by omega) (Ev.pos (by omega) (Ev.neg hcat ?_)))))))
      rw [rd1_nat]
      refine Ev.pos hlt (Ev.pos hb0 (Ev.pos (by decide) (Ev.bindc rfl (Ev.bindc (prev_f ha na) ?_))))
      rw [rdOf_nat, if_pos e]
      exact Ev.neg (by decide) hv
    · refine Ev.step (fun k => thicketref20_Point.j0.eq_2 _ _ cs ks _ c _ k) (Ev.neg (by decide) (Ev.bindc hfr (Ev.pos rfl (Ev.neg (by decide) (Ev.pos (by omega) (Ev.pos (by omega) (Ev.neg hcat ?_)))))))
      rw [rd1_nat]
      refine Ev.neg (by omega) (Ev.pos hlt (Ev.pos hb0 (Ev.pos (by decide) (Ev.bindc rfl (Ev.bindc (rprev_f ha na) ?_)))))
      rw [rdOf_nat, if_pos e]
      exact Ev.neg (by decide) hw
  · obtain ⟨v, w, hvw, hv, hw⟩ := pick1 h1 h3 R hi [(cs.getD i []).getD n 0, atBits (fkey ((cs.getD i []).getD n 0) - 1)] (by
      intro x hx
      rcases List.mem_cons.1 hx with hx | hx
      · rw [hx]; exact ha
      · rw [List.mem_singleton.1 hx]; exact atBits_lt _ (by omega) (by omega)) (by simp) (n : Int) c false h0 hb0 hb1
    refine ⟨v, w, hvw, ?_, ?_⟩
    · refine Ev.step (fun k => bins_Point.j0.eq_2 _ _ cs ks _ c _ k) (Ev.neg (by decide) (Ev.bindc hf (Ev.pos rfl (Ev.neg (by decide) (Ev.pos (by omega) (Ev.pos (by omega) (Ev.neg hcat ?_)))))))
      rw [rd1_nat]
      refine Ev.pos hlt (Ev.pos hb0 (Ev.pos (by decide) (Ev.bindc rfl (Ev.bindc (prev_f ha na) ?_))))
      rw [rdOf_nat, if_neg e]
      exact Ev.pos rfl (Ev.pos (by simp) hv)
    · refine Ev.step (fun k => thicketref20_Point.j0.eq_2 _ _ cs ks _ c _ k) (Ev.neg (by decide) (Ev.bindc hfr (Ev.pos rfl (Ev.neg (by decide) (Ev.pos (by omega) (Ev.pos (by omega) (Ev.neg hcat ?_)))))))
      rw [rd1_nat]
      refine Ev.neg (by omega) (Ev.pos hlt (Ev.pos hb0 (Ev.pos (by decide) (Ev.bindc rfl (Ev.bindc (rprev_f ha na) ?_)))))
      rw [rdOf_nat, if_neg e]
      exact Ev.pos rfl (Ev.pos (by simp) hw)
end

theorem getD_all {α : Type} {p : α → Prop} {l : List α} {d : α} (h : ∀ x ∈ l, p x) (hd : p d) (i : Nat) : p (l.getD i d) := by
  rw [List.getD_eq_getElem?_getD]
  by_cases hi : i < l.length
  · rw [List.getElem?_eq_getElem hi]; exact h _ (List.getElem_mem _)
  · rw [List.getElem?_eq_none (by omega)]; exact hd

theorem Pure.holds : Pure := by
  intro x0 x1 x2 x3 h0 hv _ _
  have hcs := h0.1
  have hks := h0.2
  unfold ok22 at hcs
  unfold ok23 at hks
  unfold ok26 at hv
  have R1 : Rows1 x0.f0 := fun i => by
    have := getD_all (p := fun r => ok26 r) (d := []) hcs.2 (by unfold ok26; exact ⟨by simp, by simp⟩) i
    unfold ok26 at this
    exact ⟨by omega, getD_all this.2 (by decide)⟩
  have R3 : Rows3 x0.f1 := fun i => by
    have := getD_all (p := fun r => ok47 r) (d := []) hks.2 (by unfold ok47; exact ⟨by simp, by simp⟩) i
    unfold ok47 at this
    omega
  have hc : x0.f0.length ≤ 17592186044416 := by omega
  have hk : x0.f1.length ≤ 17592186044416 := by omega
  obtain ⟨w, w0, w1, w2⟩ := codes_same R1 R3 hc hk (getD_all hv.2 (by decide))
  obtain ⟨p, q, pq, hp, hq⟩ := point_same R1 R3 hc hk x2 x3.f0 x3.f1 x3.f2
  refine Ev.rounds ?_
  unfold thicketlaw20_BinsCodes.f
  refine Ev.bind w1 (Ev.bind w2 (Ev.bind hp (Ev.bind hq (Ev.bind (right_f R1 R3 hc hk) (Ev.bind (rright_f R1 R3 hc hk) (Ev.neg (by simp) (Ev.bind (same_codes _ w0) (Ev.pos rfl (Ev.pos rfl ?_)))))))))
  have e : (p.2 != q.2) = false := by rw [pq.err]; exact bne_self_eq_false _
  rw [e]
  refine Ev.step (fun k => thicketlaw20_BinsCodes.j0.eq_2 _ _ _ k) (Ev.neg (by decide) ?_)
  rcases pq.is with h | ⟨h, h'⟩
  · rw [h]
    refine Ev.bindc (rnan_f pq.lt) ?_
    cases n : isNaN p.1
    · exact Ev.neg (by decide) (Ev.some_ (by unfold f64bits; simp))
    · exact Ev.pos rfl (Ev.some_ (by rw [feq_self pq.lt, n]; rfl))
  · rw [h']
    exact Ev.bindc (show thicketref06_NaN.f 9218868437227405313 = some true by decide +kernel) (Ev.pos rfl (Ev.some_ (by rw [feq_self pq.lt, h]; rfl)))
end Go.Proofs.Ytmkmooifgcdocaa.binsCodes
