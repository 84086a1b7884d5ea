/-
  Plain: what rules.Check answers at the limits.
-/
import Derived.Test.YtglpjgbgomppjaaDoorPc
import Derived.Test.YtglpjgbgomppjaaDoorPe
import Derived.Test.YtglpjgbgomppjaaDoorPw
import Derived.Test.YtglpjgbgomppjaaDoorGb
namespace Go.Proofs.YtglpjgbgomppjaaDoor.FAll
open Go.RowKit Go.Proofs.YtglpjgbgomppjaaDoorW.PrintWords Go.Proofs.YtglpjgbgomppjaaDoorW.PrintLast Go.Proofs.YtglpjgbgomppjaaDoorW.PrintMore
set_option linter.unusedVariables false
set_option linter.unusedSimpArgs false
theorem shape_same {t0 : Int} {ns : List S40} {k1 k2 : Nat} {r1 r2 : Int × Int} (h1 : trees_Shape.f k1 t0 ns = some r1) (h2 : trees_Shape.f k2 t0 ns = some r2) : r1 = r2 := by
  obtain ⟨K1, e1⟩ := Ev.of (fun k => trees_Shape.mono t0 ns k) h1
  obtain ⟨K2, e2⟩ := Ev.of (fun k => trees_Shape.mono t0 ns k) h2
  have a := e1 (K1 + K2) (by omega)
  have b := e2 (K1 + K2) (by omega)
  exact Option.some.inj (a.symm.trans b)
theorem shapeV_eq {y : S33} {r : Int × Int} {k : Nat} (hn : y.f1.length ≤ 1759218604441) (hcats : ∀ x ∈ y.f1, x.f4.length ≤ 9223372036854775807) (h : trees_Shape.f k y.f0 y.f1 = some r) : shapeV y = r := by
  obtain ⟨⟨k', hk⟩, _⟩ := shapeV_spec y hn hcats
  exact shape_same hk h
theorem shapeV_small : shapeV ⟨0, [leaf5]⟩ = (0, 0) := shapeV_eq (by decide) (by intro x hx; obtain rfl : x = leaf5 := (by simpa using hx); exact Nat.zero_le _) shape_leaf
theorem shapeV_comb (m : Nat) (hm : m ≤ 100000) : shapeV ⟨0, combL m⟩ = (0, 0) := by
  obtain ⟨k, hk⟩ := comb_shape 0 m hm
  refine shapeV_eq (by rw [combL_length]; omega) ?_ hk
  intro y hy
  obtain ⟨j, hj, rfl⟩ := List.getElem_of_mem hy
  have h := comb_rd m j (by rw [combL_length] at hj; omega)
  unfold rd_T40 at h
  rw [Int.toNat_natCast, List.getD_eq_getElem?_getD, List.getElem?_eq_getElem hj] at h
  replace h : (combL m)[j] = _ := h
  rw [h]
  split
  · exact Nat.zero_le _
  · exact Nat.zero_le _
/-- A room below 2^32 is less than the greatest. -/
theorem room_less {l : List Int} (hl : Limbs l) (h0 : 0 ≤ valL l) (h : valL l < 4294967296) : ¬ 0 ≤ cmpL (strip l) (strip mostL) := by
  have e : strip l = strip [valL l] := strip_uniq _ _ hl (by intro a ha; obtain rfl : a = valL l := (by simpa using ha); exact ⟨h0, h⟩) (by show valL l = valL l + 4294967296 * 0; omega)
  have hlen : (strip [valL l]).length ≤ 1 := by rw [strip_length]; exact stripN_le _ _
  have hm : (strip mostL).length = 2 := by decide +kernel
  rw [e]
  unfold cmpL
  rw [if_neg (by omega), if_pos (by omega)]
  decide
/-- Check's OK, put together. -/
theorem check_ok {sh : S33 → Int × Int} {nm : ByteArray} {fs : List ByteArray} {outs : Int} {bs : List Int} {ts : List S33} (h1 : NameB nm) (h2 : 1 ≤ fs.length ∧ fs.length ≤ 65536) (h3 : featV fs fs.length 0 = none) (h4 : 1 ≤ outs ∧ outs ≤ 64) (h5 : (bs.length : Int) = outs) (h6 : ts.length ≤ 65536)
    (h7 : treesV sh fs.length outs ts ts.length 0 = none) (h8 : sumsV (roomsL bs ts) bs.length 0 = none) : checkV sh nm fs outs bs ts = (0, 0, 0) := by
  unfold checkV featTail c3Tail treesTail sumsTail
  rw [show c1Head nm fs.length = (0, false) by unfold c1Head; rw [if_pos h1, if_pos h2], if_neg (by decide), h3]
  show (if (c3Head outs bs.length ts.length).2 = true then _ else _) = _
  rw [show c3Head outs bs.length ts.length = (0, false) by unfold c3Head; rw [if_pos h4, if_pos h5, if_pos h6], if_neg (by decide), h7]
  show (match sumsV (roomsL bs ts) bs.length 0 with | some k => ((31 : Int), (-1 : Int), k) | none => (0, 0, 0)) = _
  rw [h8]
theorem sums_one {b : Int} {ts : List S33} (h : amountI b + sumG 0 ts < 4294967296) : sumsV (roomsL [b] ts) 1 0 = none := by
  obtain ⟨r1, r2⟩ := rooms_val [b] ts 0 (by simp)
  have r3 : valL ((roomsL [b] ts).getD 0 []) = amountI b + sumG 0 ts := r2
  have hn := valL_nonneg r1
  unfold sumsV
  rw [if_neg (room_less r1 hn (by omega))]
  rfl
/-- So many trees of one leaf. -/
theorem trees_rep (sh : S33 → Int × Int) (nf : Nat) (t : S33) (ht : (treeV nf 1 t.f0 t.f1 (sh t)).1 = 0) (m : Nat) : ∀ d i : Nat, i + d = m → treesV sh nf 1 (List.replicate m t) d i = none := by
  intro d
  induction d with
  | zero => intro i _; rfl
  | succ d ih =>
    intro i hi
    have hr : rd_T33 (List.replicate m t) (i : Int) = t := by
      unfold rd_T33
      rw [Int.toNat_natCast, List.getD_eq_getElem?_getD, List.getElem?_replicate, if_pos (by omega)]
      rfl
    unfold treesV
    rw [hr, if_pos ht]
    exact ih (i + 1) (by omega)
theorem sum_rep (t : S33) (v : Int) (h0 : t.f0 = 0) (hv : largestV t.f1 = v) : ∀ m : Nat, sumG 0 (List.replicate m t) = m * v := by
  intro m
  induction m with
  | zero => simp [sumG]
  | succ m ih =>
    rw [List.replicate_succ]
    unfold sumG
    rw [ih, if_pos h0, hv, Int.natCast_succ, Int.add_mul, Int.one_mul]
    omega
theorem small_named : NameB smallN := by decide +kernel
theorem small_feat : featV smallF smallF.length 0 = none := by decide +kernel
theorem small_sum (m : Nat) (hm : m ≤ 100000) : sumsV (roomsL smallB (List.replicate m ⟨0, [leaf5]⟩)) smallB.length 0 = none := by
  refine sums_one (b := 0) ?_
  rw [sum_rep ⟨0, [leaf5]⟩ 5 rfl (by decide +kernel) m, show amountI 0 = 0 by decide +kernel]
  omega
theorem small_tree (nf : Nat) : (treeV nf 1 0 [leaf5] (shapeV ⟨0, [leaf5]⟩)).1 = 0 := by
  rw [shapeV_small]
  have : nodeX nf 1 leaf5 = 0 := by
    unfold nodeX nodeV
    rfl
  unfold treeV
  rw [if_pos (by decide), if_pos (by decide)]
  have hs : scanF nf [leaf5] 1 0 = none := by
    unfold scanF
    rw [show rd_T40 [leaf5] ((0 : Nat) : Int) = leaf5 from rfl, show (([leaf5] : List S40).length : Int) = 1 from rfl, if_pos this]
    rfl
  show (match scanF nf [leaf5] 1 0 with | some p => p | none => if ((0 : Int), (0 : Int)).1 = 0 then (0, 0) else (20, ((0 : Int), (0 : Int)).2)).1 = 0
  rw [hs]
  rfl
/-! ### at each limit -/
theorem limF_ok : checkV shapeV smallN (namesL 65536) 1 smallB smallT = (0, 0, 0) :=
  check_ok small_named (by rw [namesL_length]; decide) (by have h := names_feat 65536 (by decide) 65536 0 (by decide); rw [namesL_length]; exact h) (by decide) rfl (by decide) (trees_rep shapeV _ ⟨0, [leaf5]⟩ (small_tree _) 1 1 0 rfl) (small_sum 1 (by decide))
theorem limF_no : checkV shapeV smallN (namesL 65537) 1 smallB smallT = (2, -1, -1) := by
  unfold checkV
  rw [show c1Head smallN (namesL 65537).length = (2, true) by unfold c1Head; rw [if_pos small_named, if_neg (by rw [namesL_length]; decide)], if_pos rfl]
theorem limT_ok : checkV shapeV smallN smallF 1 smallB (List.replicate 65536 ⟨0, [leaf5]⟩) = (0, 0, 0) :=
  check_ok small_named (by decide) small_feat (by decide) rfl (by rw [List.length_replicate]; decide) (by rw [List.length_replicate]; exact trees_rep shapeV _ ⟨0, [leaf5]⟩ (small_tree _) 65536 65536 0 (by decide)) (small_sum 65536 (by decide))
theorem head_no {sh : S33 → Int × Int} {nm : ByteArray} {fs : List ByteArray} {outs : Int} {bs : List Int} {ts : List S33} {r : Int} (h1 : NameB nm) (h2 : 1 ≤ fs.length ∧ fs.length ≤ 65536) (h3 : featV fs fs.length 0 = none) (h4 : c3Head outs bs.length ts.length = (r, true)) : checkV sh nm fs outs bs ts = (r, -1, -1) := by
  unfold checkV featTail c3Tail
  rw [show c1Head nm fs.length = (0, false) by unfold c1Head; rw [if_pos h1, if_pos h2], if_neg (by decide), h3]
  show (if (c3Head outs bs.length ts.length).2 = true then _ else _) = _
  rw [h4, if_pos rfl]
theorem limT_no : checkV shapeV smallN smallF 1 smallB (List.replicate 65537 ⟨0, [leaf5]⟩) = (7, -1, -1) :=
  head_no small_named (by decide) small_feat (by rw [List.length_replicate]; unfold c3Head; rw [if_pos (by decide), if_pos (show ((smallB.length : Nat) : Int) = 1 from rfl), if_neg (by decide)])
theorem limO_ok : checkV shapeV smallN smallF 64 (List.replicate 64 0) smallT = (0, 0, 0) :=
  check_ok small_named (by decide) small_feat (by decide) (by rw [List.length_replicate]; rfl) (by decide) (by
    have h : (treeV smallF.length 64 0 [leaf5] (shapeV ⟨0, [leaf5]⟩)).1 = 0 := by rw [shapeV_small]; decide +kernel
    show treesV shapeV smallF.length 64 [⟨0, [leaf5]⟩] 1 0 = none
    unfold treesV
    rw [show rd_T33 [(⟨0, [leaf5]⟩ : S33)] ((0 : Nat) : Int) = ⟨0, [leaf5]⟩ from rfl, if_pos h]
    rfl) (by decide +kernel)
theorem limO_no : checkV shapeV smallN smallF 65 (List.replicate 65 0) smallT = (5, -1, -1) :=
  head_no small_named (by decide) small_feat (by unfold c3Head; rw [if_neg (by decide)])
theorem limS_ok : checkV shapeV smallN smallF 1 [-4611686018427387898] smallT = (0, 0, 0) :=
  check_ok small_named (by decide) small_feat (by decide) rfl (by decide) (trees_rep shapeV _ ⟨0, [leaf5]⟩ (small_tree _) 1 1 0 rfl) (by decide +kernel)
theorem limS_no : checkV shapeV smallN smallF 1 [4611686018427387899] smallT = (31, -1, 0) := by
  unfold checkV featTail c3Tail treesTail sumsTail
  rw [show c1Head smallN smallF.length = (0, false) by decide +kernel, if_neg (by decide), small_feat]
  show (if (c3Head 1 1 1).2 = true then _ else _) = _
  rw [show c3Head 1 1 1 = (0, false) by decide +kernel, if_neg (by decide), show treesV shapeV smallF.length 1 smallT smallT.length 0 = none from trees_rep shapeV _ ⟨0, [leaf5]⟩ (small_tree _) 1 1 0 rfl]
  show (match sumsV (roomsL [4611686018427387899] smallT) 1 0 with | some k => ((31 : Int), (-1 : Int), k) | none => (0, 0, 0)) = _
  rw [show sumsV (roomsL [4611686018427387899] smallT) 1 0 = some 0 by decide +kernel]
theorem largestG_le (ns : List S40) (c : Int) (h : ∀ j : Nat, j < ns.length → (rd_T40 ns (j : Int)).f0 = 1 → amountI (rd_T40 ns (j : Int)).f1 ≤ c) : ∀ (d i : Nat) (m : Int), i + d = ns.length → m ≤ c → largestG ns d i m ≤ c := by
  intro d
  induction d with
  | zero => intro i m _ hm; exact hm
  | succ d ih =>
    intro i m hi hm
    unfold largestG
    refine ih (i + 1) _ (by omega) ?_
    have := h i (by omega)
    repeat' split
    all_goals first | omega | (unfold mx; split <;> omega) | (simp_all; omega)
theorem comb_node (m j : Nat) (hj : j ≤ 2 * m) : nodeX 1 ((2 * m + 1 : Nat) : Int) (rd_T40 (combL m) (j : Int)) = 0 := by
  rw [comb_rd m j hj]
  by_cases h : j % 2 = 0 ∧ j < 2 * m
  · rw [if_pos h]
    have hf : feq 4607182418800017408 4607182418800017408 = true := by decide +kernel
    unfold nodeX nodeV numN
    simp only
    rw [if_pos (by rfl), if_pos (by rfl), if_pos (by rfl), if_pos hf, if_pos (by rfl), if_pos (by rfl), if_pos (decide_eq_true (.inr ⟨by omega, by omega, by omega, by omega⟩))]
  · rw [if_neg h]
    rfl
theorem comb_scan (m : Nat) : ∀ d i : Nat, i + d = 2 * m + 1 → scanF 1 (combL m) d i = none := by
  intro d
  induction d with
  | zero => intro i _; rfl
  | succ d ih =>
    intro i hi
    unfold scanF
    rw [combL_length, if_pos (comb_node m i (by omega))]
    exact ih (i + 1) (by omega)
theorem comb_tree : (treeV smallF.length 1 0 (combL 4095) (shapeV ⟨0, combL 4095⟩)).1 = 0 := by
  rw [shapeV_comb 4095 (by decide)]
  unfold treeV
  rw [if_pos (by decide), if_pos (by rw [combL_length]; decide)]
  have h : scanF smallF.length (combL 4095) (combL 4095).length 0 = none := by rw [combL_length]; exact comb_scan 4095 8191 0 rfl
  rw [h]
  rfl
theorem comb_most : largestV (combL 4095) ≤ 1 := by
  refine largestG_le _ 1 (fun j hj hk => ?_) _ 0 0 (by omega) (by decide)
  rw [combL_length] at hj
  rw [comb_rd 4095 j (by omega)] at hk ⊢
  by_cases h : j % 2 = 0 ∧ j < 2 * 4095
  · rw [if_pos h] at hk
    exact absurd hk (by show ¬ (2 : Int) = 1; decide)
  · rw [if_neg h]
    show amountI 1 ≤ 1
    decide +kernel
theorem limN_ok : checkV shapeV smallN smallF 1 smallB [⟨0, combL 4095⟩] = (0, 0, 0) :=
  check_ok small_named (by decide) small_feat (by decide) rfl (by simp) (trees_rep shapeV _ ⟨0, combL 4095⟩ comb_tree 1 1 0 rfl) (sums_one (b := 0) (by
    have h := comb_most
    have h0 := (largestV_bd (combL 4095)).1
    rw [show amountI 0 = 0 by decide +kernel]
    show 0 + ((if (0 : Int) = 0 then largestV (combL 4095) else 0) + 0) < 4294967296
    rw [if_pos rfl]
    omega))
theorem nodes_no (ns : List S40) (h : 8191 < ns.length) : checkV shapeV smallN smallF 1 smallB [⟨0, ns⟩] = (12, 0, -1) := by
  have ht : treeV smallF.length 1 0 ns (shapeV ⟨0, ns⟩) = (12, -1) := by
    unfold treeV
    rw [if_pos (by decide), if_neg (by omega)]
  unfold checkV featTail c3Tail treesTail
  rw [show c1Head smallN smallF.length = (0, false) by decide +kernel, if_neg (by decide), small_feat]
  show (if (c3Head 1 1 1).2 = true then _ else _) = _
  rw [show c3Head 1 1 1 = (0, false) by decide +kernel, if_neg (by decide)]
  have hv : treesV shapeV smallF.length 1 [(⟨0, ns⟩ : S33)] 1 0 = some (12, 0, -1) := by
    unfold treesV
    rw [show rd_T33 [(⟨0, ns⟩ : S33)] ((0 : Nat) : Int) = ⟨0, ns⟩ from rfl, ht, if_neg (by decide)]
    rfl
  show (match treesV shapeV smallF.length 1 [(⟨0, ns⟩ : S33)] 1 0 with | some p => p | none => sumsTail smallB [⟨0, ns⟩]) = _
  rw [hv]
end Go.Proofs.YtglpjgbgomppjaaDoor.FAll
