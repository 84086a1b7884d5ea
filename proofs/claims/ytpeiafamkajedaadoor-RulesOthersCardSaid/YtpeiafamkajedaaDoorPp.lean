/-
  Plain: a right ensemble stays right where its trees are numbered anew, or are left out and stand in another order under other names.
-/
import Derived.Test.YtpeiafamkajedaaDoorPu
import Derived.Test.YtpeiafamkajedaaDoorOt
import Derived.Test.YtpeiafamkajedaaDoorPe
import Derived.Test.YtpeiafamkajedaaDoorFAllx5
namespace Go.Proofs.YtpeiafamkajedaaDoor.FAll
open Go.RowKit Go.Proofs.YtpeiafamkajedaaDoorW.PrintWords Go.Proofs.YtpeiafamkajedaaDoorW.PrintLast Go.Proofs.YtpeiafamkajedaaDoorW.PrintMore BTree
set_option linter.unusedVariables false
set_option linter.unusedSimpArgs false
theorem shape_same' {t0 : Int} {ns : List S65} {k1 k2 : Nat} {r1 r2 : Int × Int} (h1 : trees_Shape.f k1 t0 ns = some r1) (h2 : trees_Shape.f k2 t0 ns = some r2) : r1 = r2 := by
  obtain ⟨K1, e1⟩ := Ev.of (fun k => trees_Shape.mono t0 ns k) h1
  obtain ⟨K2, e2⟩ := Ev.of (fun k => trees_Shape.mono t0 ns k) h2
  have a := e1 (K1 + K2) (by omega)
  have b := e2 (K1 + K2) (by omega)
  exact Option.some.inj (a.symm.trans b)
theorem shapeV_eq' {y : S37} {r : Int × Int} {k : Nat} (hn : y.f1.length ≤ 1759218604441) (hcats : ∀ x ∈ y.f1, x.f4.length ≤ 9223372036854775807) (h : trees_Shape.f k y.f0 y.f1 = some r) : shapeV y = r := by
  obtain ⟨⟨k', hk⟩, _⟩ := shapeV_spec y hn hcats
  exact shape_same' hk h
/-- Sizes that any ensemble in memory keeps. -/
def Small (ts : List S37) : Prop := ∀ y ∈ ts, y.f1.length ≤ 1759218604441 ∧ ∀ x ∈ y.f1, x.f4.length ≤ 9223372036854775807
theorem scan_none (nf : Nat) (ns : List S65) : ∀ d i : Nat, (∀ j, i ≤ j → j < i + d → nodeX nf ns.length (rd_T65 ns (j : Int)) = 0) → scanF nf ns d i = none
  | 0, _, _ => rfl
  | d + 1, i, h => by
    unfold scanF
    rw [if_pos (h i (Nat.le_refl _) (by omega))]
    exact scan_none nf ns d (i + 1) (fun j h1 h2 => h j (by omega) (by omega))
theorem treeV_ok {nf : Nat} {outs t0 : Int} {ns : List S65} {s : Int × Int} (h1 : 0 ≤ t0 ∧ t0 < outs) (h2 : 1 ≤ ns.length ∧ ns.length ≤ 8191) (h3 : ∀ j : Nat, j < ns.length → nodeX nf ns.length (rd_T65 ns (j : Int)) = 0) (h4 : s.1 = 0) : (treeV nf outs t0 ns s).1 = 0 := by
  unfold treeV
  rw [if_pos h1, if_pos h2, scan_none nf ns ns.length 0 (fun j _ hj => h3 j (by omega))]
  show (if s.1 = 0 then ((0 : Int), (0 : Int)) else (20, s.2)).1 = 0
  rw [if_pos h4]
theorem rdT_mem {ts : List S37} {j : Nat} (h : j < ts.length) : rd_T37 ts (j : Int) ∈ ts := by
  unfold rd_T37
  rw [Int.toNat_natCast, List.getD_eq_getElem?_getD, List.getElem?_eq_getElem h]
  exact List.getElem_mem h
theorem trees_none (sh : S37 → Int × Int) (nf : Nat) (outs : Int) (ts : List S37) (h : ∀ y ∈ ts, (treeV nf outs y.f0 y.f1 (sh y)).1 = 0) : ∀ d i : Nat, i + d = ts.length → treesV sh nf outs ts d i = none
  | 0, _, _ => rfl
  | d + 1, i, hi => by
    unfold treesV
    rw [if_pos (h _ (rdT_mem (by omega)))]
    exact trees_none sh nf outs ts h d (i + 1) (by omega)
theorem trees_each {sh : S37 → Int × Int} {nf : Nat} {outs : Int} {ts : List S37} (h : treesV sh nf outs ts ts.length 0 = none) : ∀ y ∈ ts, (treeV nf outs y.f0 y.f1 (sh y)).1 = 0 := by
  intro y hy
  obtain ⟨j, hj, rfl⟩ := List.getElem_of_mem hy
  have h2 := treesV_all sh nf outs ts _ _ h j (Nat.zero_le _) (by omega)
  unfold rd_T37 at h2
  rw [Int.toNat_natCast, List.getD_eq_getElem?_getD, List.getElem?_eq_getElem hj] at h2
  exact h2
/-! ### the rooms -/
theorem most_two' : strip mostL = [0, 1073741824] := by decide +kernel
theorem most_only' {a : List Int} (hl : Limbs a) (h : ¬ 0 ≤ cmpL a (strip mostL)) : valL a < 4611686018427387904 := by
  rw [most_two'] at h
  unfold cmpL at h
  match a, hl with
  | [], _ => decide
  | [x], hl =>
    have := hl x (by simp)
    show x + 4294967296 * 0 < _
    omega
  | [x, y], hl =>
    have h1 := hl x (by simp)
    have h2 := hl y (by simp)
    rw [if_pos (show [x, y].length = [(0 : Int), 1073741824].length from rfl)] at h
    have h3 : ¬ 0 ≤ (if y < 1073741824 then (-1 : Int) else if 1073741824 < y then 1 else if x < 0 then -1 else if 0 < x then 1 else 0) := h
    show x + 4294967296 * (y + 4294967296 * 0) < _
    by_cases e : y < 1073741824
    · omega
    · rw [if_neg e] at h3
      split at h3
      · omega
      · split at h3
        · omega
        · split at h3 <;> omega
  | x :: y :: z :: l, _ =>
    rw [if_neg (by simp), if_neg (by simp)] at h
    exact absurd (by decide) h
theorem room_less' {l : List Int} (hl : Limbs l) (h : valL l < 4611686018427387904) : ¬ 0 ≤ cmpL (strip l) (strip mostL) := by
  have h0 := valL_nonneg hl
  obtain ⟨x, y, hx, hy, hv⟩ : ∃ x y : Int, (0 ≤ x ∧ x < 4294967296) ∧ (0 ≤ y ∧ y < 1073741824) ∧ valL l = x + 4294967296 * y := ⟨valL l % 4294967296, valL l / 4294967296, by omega, by omega, by omega⟩
  have e : strip l = strip [x, y] := strip_uniq _ _ hl (by intro a ha; rcases List.mem_cons.1 ha with rfl | ha; exact hx; obtain rfl : a = y := (by simpa using ha); omega) (by show valL l = x + 4294967296 * (y + 4294967296 * 0); omega)
  rw [e, most_two']
  have s1 : strip [y] = if y = 0 then [] else [y] := by rw [strip_cons, strip_nil, if_pos rfl]
  rw [strip_cons, s1]
  by_cases ey : y = 0
  · rw [if_pos ey, if_pos rfl]
    by_cases ex : x = 0
    · rw [if_pos ex]; decide
    · rw [if_neg ex]
      unfold cmpL
      rw [if_neg (by simp), if_pos (by simp)]
      decide
  · rw [if_neg ey, if_neg (by simp)]
    unfold cmpL
    rw [if_pos (show [x, y].length = [(0 : Int), 1073741824].length from rfl)]
    show ¬ 0 ≤ (if y < 1073741824 then (-1 : Int) else if 1073741824 < y then 1 else if x < 0 then -1 else if 0 < x then 1 else 0)
    rw [if_pos hy.2]
    decide
theorem sums_all' (q : List (List Int)) : ∀ d k, sumsV q d k = none → ∀ j, k ≤ j → j < k + d → ¬ 0 ≤ cmpL (strip (q.getD j [])) (strip mostL) := by
  intro d
  induction d with
  | zero => intro k _ j h1 h2; omega
  | succ d ih =>
    intro k h j h1 h2
    unfold sumsV at h
    split at h
    · cases h
    · rename_i hn
      by_cases e : j = k
      · subst e; exact hn
      · exact ih (k + 1) h j (by omega) (by omega)
theorem sums_none (q : List (List Int)) : ∀ d k, (∀ j, k ≤ j → j < k + d → ¬ 0 ≤ cmpL (strip (q.getD j [])) (strip mostL)) → sumsV q d k = none
  | 0, _, _ => rfl
  | d + 1, k, h => by
    unfold sumsV
    rw [if_neg (h k (Nat.le_refl _) (by omega))]
    exact sums_none q d (k + 1) (fun j h1 h2 => h j (by omega) (by omega))
theorem sums_less {bs : List Int} {ts ts' : List S37} (h : sumsV (roomsL bs ts) bs.length 0 = none) (hle : ∀ o, sumG o ts' ≤ sumG o ts) : sumsV (roomsL bs ts') bs.length 0 = none := by
  refine sums_none _ _ _ (fun n _ hn => ?_)
  have hn' : n < bs.length := by omega
  obtain ⟨r1, r2⟩ := rooms_val bs ts n hn'
  obtain ⟨q1, q2⟩ := rooms_val bs ts' n hn'
  have h2 := sums_all' _ _ _ h n (Nat.zero_le _) (by omega)
  have h3 := most_only' (strip_limbs r1) h2
  rw [strip_val, r2] at h3
  refine room_less' q1 ?_
  rw [q2]
  have := hle (n : Int)
  omega
/-! ### the greatest leaf -/
theorem largestG_ge' (ns : List S65) : ∀ (d i : Nat) (m : Int), m ≤ largestG ns d i m := by
  intro d
  induction d with
  | zero => intro i m; exact Int.le_refl _
  | succ d ih =>
    intro i m
    unfold largestG
    refine Int.le_trans ?_ (ih (i + 1) _)
    split
    · unfold mx; split <;> omega
    · exact Int.le_refl _
theorem largestG_at' (ns : List S65) : ∀ (d i : Nat) (m : Int) (j : Nat), i ≤ j → j < i + d → (rd_T65 ns (j : Int)).f0 = 1 → amountI (rd_T65 ns (j : Int)).f1 ≤ largestG ns d i m := by
  intro d
  induction d with
  | zero => intro i m j h1 h2; omega
  | succ d ih =>
    intro i m j h1 h2 h3
    unfold largestG
    by_cases e : j = i
    · subst e
      rw [if_pos h3]
      refine Int.le_trans ?_ (largestG_ge' ns d (j + 1) _)
      unfold mx; split <;> omega
    · exact ih (i + 1) _ j (by omega) (by omega) h3
theorem largestG_le' (ns : List S65) (c : Int) (h : ∀ j : Nat, j < ns.length → (rd_T65 ns (j : Int)).f0 = 1 → amountI (rd_T65 ns (j : Int)).f1 ≤ c) : ∀ (d i : Nat) (m : Int), i + d = ns.length → m ≤ c → largestG ns d i m ≤ c := by
  intro d
  induction d with
  | zero => intro i m _ hm; exact hm
  | succ d ih =>
    intro i m hi hm
    unfold largestG
    refine ih (i + 1) _ (by omega) ?_
    have := h i (by omega)
    split
    · rename_i hk
      have := this hk
      unfold mx
      split <;> omega
    · exact hm
theorem largest_canon {ns : List S65} {T : BT} (hT : TreeIs ns T) (tf : TreeFine ns) (hcv : ∀ j, j < ns.length → j ∈ T.pre) : largestV (canonL ns T.pre) ≤ largestV ns := by
  refine largestG_le' _ _ (fun j hj hk => ?_) _ 0 0 (by omega) (largestG_ge' ns _ _ _)
  rw [canon_len hT tf hcv] at hj
  rw [canon_rd hT tf hcv hj] at hk ⊢
  have hlt := pre_at hT tf hcv hj
  by_cases hi : innerB (rd_T65 ns ((T.pre.getD j 0 : Nat) : Int)) = true
  · unfold cnN at hk
    rw [if_pos hi] at hk
    exact absurd hk (ne_inn hi)
  · unfold cnN at hk ⊢
    rw [if_neg hi] at hk ⊢
    exact largestG_at' ns ns.length 0 0 _ (Nat.zero_le _) (by omega) hk
/-! ### sums over trees -/
theorem sumG_cons (o : Int) (t : S37) (l : List S37) : sumG o (t :: l) = (if t.f0 = o then largestV t.f1 else 0) + sumG o l := rfl
theorem sumG_append (o : Int) (a b : List S37) : sumG o (a ++ b) = sumG o a + sumG o b := by
  induction a with
  | nil => show sumG o b = 0 + sumG o b; omega
  | cons t l ih => rw [List.cons_append, sumG_cons, sumG_cons, ih]; omega
theorem sumG_sub (o : Int) {a b : List S37} (h : a.Sublist b) : sumG o a ≤ sumG o b := by
  induction h with
  | slnil => exact Int.le_refl _
  | cons t _ ih => have := largestV_bd t.f1; rw [show ∀ l, sumG o (t :: l) = (if t.f0 = o then largestV t.f1 else 0) + sumG o l from fun _ => rfl]; split <;> omega
  | cons_cons t _ ih => rw [sumG_cons, sumG_cons]; omega
theorem sumG_map (o : Int) (f : S37 → S37) : ∀ ts : List S37, (∀ y ∈ ts, (f y).f0 = y.f0 ∧ largestV (f y).f1 ≤ largestV y.f1) → sumG o (ts.map f) ≤ sumG o ts
  | [], _ => Int.le_refl _
  | t :: l, h => by
    have h1 := sumG_map o f l (fun y hy => h y (List.mem_cons_of_mem _ hy))
    obtain ⟨h2, h3⟩ := h t (List.mem_cons_self ..)
    rw [List.map_cons]
    unfold sumG
    rw [h2]
    split <;> omega
/-! ### trees left out and turned -/
theorem turn_at {ts : List S37} {r k : Nat} (hr : r < ts.length) (hk : k < ts.length) : (ts.drop r ++ ts.take r)[k]? = some (rd_T37 ts (((k + r) % ts.length : Nat) : Int)) := by
  have hl : (ts.drop r).length = ts.length - r := List.length_drop ..
  unfold rd_T37
  rw [Int.toNat_natCast, List.getD_eq_getElem?_getD]
  by_cases h : k + r < ts.length
  · rw [Nat.mod_eq_of_lt h, List.getElem?_append_left (by omega), List.getElem?_drop, Nat.add_comm r k, List.getElem?_eq_getElem h]
    rfl
  · have e : (k + r) % ts.length = k + r - ts.length := by rw [Nat.mod_eq_sub_mod (by omega), Nat.mod_eq_of_lt (by omega)]
    rw [e, List.getElem?_append_right (by omega), hl, show k - (ts.length - r) = k + r - ts.length by omega, List.getElem?_take, if_pos (by omega), List.getElem?_eq_getElem (by omega)]
    rfl
theorem pick_sub (ts : List S37) (ov : List Bool) (r : Nat) (hr : ts.length = 0 ∨ r < ts.length) : ∀ k, k ≤ ts.length → (pickT ts ov r k).Sublist ((ts.drop r ++ ts.take r).take k)
  | 0, _ => List.nil_sublist _
  | k + 1, hk => by
    have ih := pick_sub ts ov r hr k (by omega)
    rw [List.take_add_one, turn_at (by omega) (by omega)]
    unfold pickT
    split
    · exact ih.trans (List.sublist_append_left _ _)
    · exact ih.append (List.Sublist.refl _)
theorem pick_all (ts : List S37) (ov : List Bool) (r : Nat) (hr : ts.length = 0 ∨ r < ts.length) : (pickT ts ov r ts.length).Sublist (ts.drop r ++ ts.take r) := by
  have h := pick_sub ts ov r hr ts.length (Nat.le_refl _)
  rwa [List.take_of_length_le (by rw [List.length_append, List.length_drop, List.length_take]; omega)] at h
theorem pick_mem {ts : List S37} {ov : List Bool} {r : Nat} (hr : ts.length = 0 ∨ r < ts.length) : ∀ y ∈ pickT ts ov r ts.length, y ∈ ts := by
  intro y hy
  rcases List.mem_append.1 ((pick_all ts ov r hr).subset hy) with h | h
  · exact List.mem_of_mem_drop h
  · exact List.mem_of_mem_take h
theorem pick_sum {ts : List S37} {ov : List Bool} {r : Nat} (hr : ts.length = 0 ∨ r < ts.length) (o : Int) : sumG o (pickT ts ov r ts.length) ≤ sumG o ts := by
  have h := sumG_sub o (pick_all ts ov r hr)
  have h2 := sumG_append o (ts.take r) (ts.drop r)
  rw [List.take_append_drop] at h2
  rw [sumG_append] at h
  omega
/-! ### rules.Check of what is made -/
theorem check_keep {sh : S37 → Int × Int} {nm : ByteArray} {fs fs' : List ByteArray} {outs : Int} {bs : List Int} {ts ts' : List S37} (h : checkV sh nm fs outs bs ts = (0, 0, 0)) (hl : fs'.length = fs.length) (hf : featV fs' fs'.length 0 = none) (hn : ts'.length ≤ 65536)
    (ht : ∀ y ∈ ts', (treeV fs.length outs y.f0 y.f1 (sh y)).1 = 0) (hs : ∀ o, sumG o ts' ≤ sumG o ts) : checkV sh nm fs' outs bs ts' = (0, 0, 0) := by
  have good := check_good sh nm fs outs bs ts h
  have h1 : ¬ (c1Head nm fs.length).2 = true := by
    intro hc
    unfold checkV at h
    rw [if_pos hc] at h
    injection h with h _
    unfold c1Head at hc h
    split at hc
    · split at hc
      · cases hc
      · rename_i a b; rw [if_pos a, if_neg b] at h; cases h
    · rename_i a; rw [if_neg a] at h; cases h
  unfold checkV featTail c3Tail treesTail sumsTail
  rw [hl, if_neg h1]
  rw [hl] at hf
  rw [hf]
  show (if (c3Head outs bs.length ts'.length).2 = true then _ else _) = _
  rw [show c3Head outs bs.length ts'.length = (0, false) by unfold c3Head; rw [if_pos good.outs1, if_pos good.base, if_pos hn], if_neg (by decide), trees_none sh fs.length outs ts' ht ts'.length 0 (by omega)]
  show (match sumsV (roomsL bs ts') bs.length 0 with | some k => ((31 : Int), (-1 : Int), k) | none => (0, 0, 0)) = _
  rw [sums_less good.sums hs]
theorem tree_ok {nm : ByteArray} {fs : List ByteArray} {outs : Int} {bs : List Int} {ts : List S37} (hts : Small ts) (h : checkV shapeV nm fs outs bs ts = (0, 0, 0)) : ∀ y ∈ ts, (∃ k, trees_Shape.f k y.f0 y.f1 = some (0, 0)) ∧ TreeFine y.f1 ∧ y.f1.length ≤ 8191 := by
  intro y hy
  have good := check_good shapeV nm fs outs bs ts h
  obtain ⟨_, g2, _, g4⟩ := treeV_good (trees_each good.trees y hy)
  obtain ⟨⟨k, hk⟩, hs⟩ := shapeV_spec y (hts y hy).1 (hts y hy).2
  obtain ⟨h1, h2⟩ := hs g4
  rw [h1] at hk
  exact ⟨⟨k, hk⟩, h2, g2.2⟩
theorem canons_exist {nm : ByteArray} {fs : List ByteArray} {outs : Int} {bs : List Int} {ts : List S37} (hts : Small ts) (h : checkV shapeV nm fs outs bs ts = (0, 0, 0)) : ∃ f, Canons f ts := by
  classical
  refine ⟨fun y => if h : ∃ T, TreeIs y.f1 T then ⟨y.f0, canonL y.f1 h.choose.pre⟩ else y, fun y hy => ?_⟩
  obtain ⟨⟨k, hk⟩, tf, hn⟩ := tree_ok hts h y hy
  have hT := tree_is tf
  refine ⟨k, hT.choose, hk, hT.choose_spec, tf, cover hT.choose_spec tf (hts y hy).1 hk, by omega, ?_⟩
  show (if h : ∃ T, TreeIs y.f1 T then _ else _) = _
  rw [dif_pos hT]
theorem small_map {f : S37 → S37} {ts : List S37} (hts : Small ts) (hf : Canons f ts) : Small (ts.map f) := by
  intro y hy
  obtain ⟨z, hz, rfl⟩ := List.mem_map.1 hy
  obtain ⟨k, T, hk, hT, tf, hcv, _, e⟩ := hf z hz
  rw [e]
  exact ⟨by rw [canon_len hT tf hcv]; exact (hts z hz).1, canon_f4 hT tf hcv (hts z hz).2⟩
/-- Numbered anew an ensemble stays right. -/
theorem model_ok {nm : ByteArray} {fs : List ByteArray} {outs : Int} {bs : List Int} {ts : List S37} {f : S37 → S37} (hts : Small ts) (h : checkV shapeV nm fs outs bs ts = (0, 0, 0)) (hf : Canons f ts) : checkV shapeV nm fs outs bs (ts.map f) = (0, 0, 0) := by
  have good := check_good shapeV nm fs outs bs ts h
  have hsm := small_map hts hf
  refine check_keep h rfl good.names (by rw [List.length_map]; exact good.few) (fun y hy => ?_) (fun o => sumG_map o f ts (fun y hy => ?_))
  · have hy2 := hsm y hy
    obtain ⟨z, hz, rfl⟩ := List.mem_map.1 hy
    obtain ⟨k, T, hk, hT, tf, hcv, _, e⟩ := hf z hz
    obtain ⟨g1, g2, g3, _⟩ := treeV_good (trees_each good.trees z hz)
    obtain ⟨k2, hk2⟩ := canon_shape hT tf hcv (hts z hz).1 (hts z hz).2 hk
    rw [e] at hy2 ⊢
    have hs : shapeV ⟨z.f0, canonL z.f1 T.pre⟩ = (0, 0) := shapeV_eq' hy2.1 hy2.2 hk2
    rw [hs]
    have hcl := canon_len hT tf hcv
    refine treeV_ok g1 (by show 1 ≤ (canonL z.f1 T.pre).length ∧ (canonL z.f1 T.pre).length ≤ 8191; rw [hcl]; exact g2) (fun j hj => ?_) rfl
    replace hj : j < z.f1.length := by rw [← hcl]; exact hj
    show nodeX fs.length ((canonL z.f1 T.pre).length : Int) (rd_T65 (canonL z.f1 T.pre) (j : Int)) = 0
    rw [hcl, canon_rd hT tf hcv hj]
    exact node_canon hT tf hcv (pre_at hT tf hcv hj) (g3 _ (pre_at hT tf hcv hj))
  · obtain ⟨k, T, hk, hT, tf, hcv, _, e⟩ := hf y hy
    rw [e]
    exact ⟨rfl, largest_canon hT tf hcv⟩
/-- With trees left out, turned, under other names, too. -/
theorem pick_ok {nm : ByteArray} {fs : List ByteArray} {outs : Int} {bs : List Int} {ts : List S37} {ov : List Bool} {r : Nat} (h : checkV shapeV nm fs outs bs ts = (0, 0, 0)) (hr : ts.length = 0 ∨ r < ts.length) : checkV shapeV nm (namesL fs.length) outs bs (pickT ts ov r ts.length) = (0, 0, 0) := by
  have good := check_good shapeV nm fs outs bs ts h
  have h1 := good.fsl
  have h2 := pickT_length ts ov r ts.length
  have h3 := good.few
  refine check_keep h (namesL_length _) ?_ (by omega) (fun y hy => trees_each good.trees y (pick_mem hr y hy)) (pick_sum hr)
  rw [namesL_length]
  exact names_feat fs.length (by omega) fs.length 0 (by omega)
/-! ### the document's Copy is the ensemble itself -/
section
variable (nm : ByteArray) (fs : List ByteArray) (outs : Int) (bs : List Int) (ts : List S37)
theorem nodes_l0 (ns : List S65) (hn : ns.length ≤ 1759218604441) (hx : ∀ x ∈ ns, x.f3 < 2 ^ 64 ∧ x.f4.length ≤ 17592186043904) : ∀ d i : Nat, i + d = ns.length → Ev (fun k => thicketref07_Nodes.l0 k (ns.take i) ns (ns.length : Int) (i : Int)) ns := by
  intro d
  induction d with
  | zero =>
    intro i hi
    refine Ev.step (f := fun k => _) (fun k => rfl) ?_
    refine evn (by omega) ?_
    refine eve (Ev.now _) ?_
    exact List.take_of_length_le (by omega)
  | succ d ih =>
    intro i hi
    have e1 : wrap64 ((i : Int) + 1) = ((i + 1 : Nat) : Int) := by unfold wrap64; omega
    have hyi : rd_T65 ns (i : Int) = ns[i]'(by omega) := by
      unfold rd_T65
      rw [Int.toNat_natCast, List.getD_eq_getElem?_getD, List.getElem?_eq_getElem (by omega)]
      rfl
    have hc := (hx _ (hyi ▸ List.getElem_mem (by omega : i < ns.length) : rd_T65 ns (i : Int) ∈ ns)).2
    refine Ev.step (f := fun k => _) (fun k => rfl) ?_
    refine evp (by omega) (evp (by omega) (evp (by omega) (evp (by show 0 + _ < _; omega) (evp (by rw [List.length_take]; omega) ?_))))
    rw [e1, List.nil_append]
    have e2 : ns.take i ++ [(⟨(rd_T65 ns (i : Int)).f0, (rd_T65 ns (i : Int)).f1, (rd_T65 ns (i : Int)).f2, (rd_T65 ns (i : Int)).f3, (rd_T65 ns (i : Int)).f4, (rd_T65 ns (i : Int)).f5, (rd_T65 ns (i : Int)).f6, (rd_T65 ns (i : Int)).f7⟩ : S65)] = ns.take (i + 1) := by
      rw [List.take_add_one, List.getElem?_eq_getElem (by omega)]
      show ns.take i ++ [rd_T65 ns (i : Int)] = _
      rw [hyi]
      rfl
    rw [e2]
    exact ih (i + 1) (by omega)
theorem copy_l0 (fs2 : List ByteArray) (bs2 : List Int) (hts : TreesOk ts) (hl : ts.length ≤ 4398046511104) : ∀ d i : Nat, i + d = ts.length → Ev (fun k => thicketref07_Copy.l0 k (ts.take i) ts (ts.length : Int) (i : Int) nm fs2 outs bs2 ts) (nm, fs2, outs, bs2, ts) := by
  intro d
  induction d with
  | zero =>
    intro i hi
    refine Ev.step (f := fun k => _) (fun k => rfl) ?_
    refine evn (by omega) ?_
    refine eve (Ev.now _) ?_
    rw [List.take_of_length_le (by omega)]
  | succ d ih =>
    intro i hi
    have e1 : wrap64 ((i : Int) + 1) = ((i + 1 : Nat) : Int) := by unfold wrap64; omega
    have hyi : rd_T37 ts (i : Int) = ts[i]'(by omega) := by
      unfold rd_T37
      rw [Int.toNat_natCast, List.getD_eq_getElem?_getD, List.getElem?_eq_getElem (by omega)]
      rfl
    have hc := hts _ (hyi ▸ List.getElem_mem (by omega : i < ts.length) : rd_T37 ts (i : Int) ∈ ts)
    have gn : Ev (fun k => thicketref07_Nodes.f k (rd_T37 ts (i : Int)).f1) (rd_T37 ts (i : Int)).f1 := nodes_l0 _ hc.1 hc.2 (rd_T37 ts (i : Int)).f1.length 0 (by omega)
    refine Ev.step (f := fun k => _) (fun k => rfl) ?_
    refine evp (by omega) (evp (by omega) (evp (by omega) ?_))
    refine Ev.bind gn ?_
    refine evp (by rw [List.length_take]; omega) ?_
    rw [e1]
    have e2 : ts.take i ++ [(⟨(rd_T37 ts (i : Int)).f0, (rd_T37 ts (i : Int)).f1⟩ : S37)] = ts.take (i + 1) := by
      rw [List.take_add_one, List.getElem?_eq_getElem (by omega)]
      show ts.take i ++ [rd_T37 ts (i : Int)] = _
      rw [hyi]
      rfl
    rw [e2]
    exact ih (i + 1) (by omega)
theorem copy_total (hts : TreesOk ts) (hf : fs.length < 8796093022208) (hb : bs.length < 17592186044416) (hl : ts.length ≤ 4398046511104) : ∃ k, thicketref07_Copy.f k nm fs outs bs ts = some (nm, fs, outs, bs, ts) := by
  refine Ev.rounds (g := fun k => thicketref07_Copy.f k nm fs outs bs ts) ?_
  unfold thicketref07_Copy.f
  refine evp (by show 0 + _ < _; omega) (evp (by show 0 + _ < _; omega) ?_)
  rw [List.nil_append, List.nil_append]
  exact copy_l0 nm outs ts fs bs hts hl ts.length 0 (by omega)
end
end Go.Proofs.YtpeiafamkajedaaDoor.FAll
