/-
  Plain: the rooms of the program are the document's.
-/
import Derived.Test.YtkemfbocojoagaaDoorPr
namespace Go.Proofs.YtkemfbocojoagaaDoor.FAll
open Go.RowKit Go.Proofs.YtkemfbocojoagaaDoorW.PrintWords Go.Proofs.YtkemfbocojoagaaDoorW.PrintLast Go.Proofs.YtkemfbocojoagaaDoorW.PrintMore
set_option linter.unusedVariables false
set_option linter.unusedSimpArgs false

theorem amount_bd (v : Int) : 0 ≤ amountI v ∧ amountI v < 18446744073709551616 := by
  unfold amountI
  split <;> rw [wrap_u64] <;> omega
theorem largestG_bd (ns : List S66) : ∀ (d i : Nat) (m : Int), 0 ≤ m ∧ m < 18446744073709551616 → 0 ≤ largestG ns d i m ∧ largestG ns d i m < 18446744073709551616 := by
  intro d
  induction d with
  | zero => intro i m h; exact h
  | succ d ih =>
    intro i m h
    unfold largestG
    refine ih (i + 1) _ ?_
    have := amount_bd (rd_T66 ns (i : Int)).f1
    split
    · unfold mx
      split <;> omega
    · exact h
theorem largestV_bd (ns : List S66) : 0 ≤ largestV ns ∧ largestV ns < 18446744073709551616 := largestG_bd ns ns.length 0 0 (by omega)
/-- The greatest leaves of an output's trees, added. -/
def sumG (n : Int) : List S36 → Int
  | [] => 0
  | t :: l => (if t.f0 = n then largestV t.f1 else 0) + sumG n l
theorem sumG_nonneg (n : Int) : ∀ l, 0 ≤ sumG n l
  | [] => Int.le_refl 0
  | t :: l => by
    have h := sumG_nonneg n l
    have h2 := largestV_bd t.f1
    unfold sumG
    split <;> omega
theorem word_limbs (ns : List S66) : Limbs (strip (words (largestV ns))) ∧ valL (strip (words (largestV ns))) = largestV ns := by
  have h := largestV_bd ns
  obtain ⟨h1, h2⟩ := words_limbs (largestV ns) h.1 h.2
  exact ⟨strip_limbs h1, by rw [strip_val, h2]⟩
theorem getD_set (o : List (List Int)) (i n : Nat) (x : List Int) (hi : i < o.length) : (o.set i x).getD n [] = if n = i then x else o.getD n [] := by
  rw [List.getD_eq_getElem?_getD, List.getD_eq_getElem?_getD, List.getElem?_set]
  by_cases h : i = n
  · subst h
    rw [if_pos rfl, if_pos rfl, if_pos hi]
    rfl
  · rw [if_neg h, if_neg (fun e => h e.symm)]
theorem fold_val : ∀ (l : List S36) (o : List (List Int)), (∀ j, Limbs (o.getD j [])) → ∀ n : Nat, n < o.length →
    Limbs ((l.foldl stepT o).getD n []) ∧ valL ((l.foldl stepT o).getD n []) = valL (o.getD n []) + sumG (n : Int) l := by
  intro l
  induction l with
  | nil => intro o h n hn; exact ⟨h n, by show _ = _ + (0 : Int); rw [Int.add_zero]; rfl⟩
  | cons t l ih =>
    intro o h n hn
    rw [List.foldl_cons]
    obtain ⟨w1, w2⟩ := word_limbs t.f1
    by_cases hc : 0 ≤ t.f0 ∧ t.f0 < (o.length : Int)
    · have hs : stepT o t = o.set t.f0.toNat (addL (o.getD t.f0.toNat []) (strip (words (largestV t.f1)))) := by unfold stepT; rw [if_pos hc]
      have hlt : t.f0.toNat < o.length := by omega
      obtain ⟨a1, a2⟩ := addL_val (o.getD t.f0.toNat []) (strip (words (largestV t.f1))) (h _) w1
      have h' : ∀ j, Limbs ((stepT o t).getD j []) := by
        intro j
        rw [hs, getD_set o _ j _ hlt]
        by_cases e : j = t.f0.toNat
        · rw [if_pos e]; exact a1
        · rw [if_neg e]; exact h j
      obtain ⟨r1, r2⟩ := ih (stepT o t) h' n (by rw [stepT_length]; exact hn)
      refine ⟨r1, ?_⟩
      rw [r2, hs, getD_set o _ n _ hlt]
      show _ = _ + ((if t.f0 = (n : Int) then largestV t.f1 else 0) + sumG (n : Int) l)
      by_cases e : n = t.f0.toNat
      · rw [if_pos e, if_pos (by omega), a2, w2, e]
        omega
      · rw [if_neg e, if_neg (by omega)]
        omega
    · have hs : stepT o t = o := by unfold stepT; rw [if_neg hc]
      rw [hs]
      obtain ⟨r1, r2⟩ := ih o h n hn
      refine ⟨r1, ?_⟩
      rw [r2]
      show _ = _ + ((if t.f0 = (n : Int) then largestV t.f1 else 0) + sumG (n : Int) l)
      rw [if_neg (by omega)]
      omega
theorem rooms_val (bs : List Int) (ts : List S36) (n : Nat) (hn : n < bs.length) :
    Limbs ((roomsL bs ts).getD n []) ∧ valL ((roomsL bs ts).getD n []) = amountI (rd bs (n : Int)) + sumG (n : Int) ts := by
  have hb : ∀ j, j < bs.length → (bs.map roomB).getD j [] = roomB (rd bs (j : Int)) := by
    intro j hj
    unfold rd
    rw [List.getD_eq_getElem?_getD, List.getElem?_map, List.getElem?_eq_getElem hj, Int.toNat_natCast, List.getD_eq_getElem?_getD, List.getElem?_eq_getElem hj]
    rfl
  have hB : ∀ v, Limbs (roomB v) ∧ valL (roomB v) = amountI v := by
    intro v
    have h := amount_bd v
    obtain ⟨h1, h2⟩ := words_limbs (amountI v) h.1 h.2
    exact ⟨strip_limbs h1, by unfold roomB; rw [strip_val, h2]⟩
  have hL : ∀ j, Limbs ((bs.map roomB).getD j []) := by
    intro j
    by_cases hj : j < bs.length
    · rw [hb j hj]; exact (hB _).1
    · rw [List.getD_eq_getElem?_getD, List.getElem?_eq_none (by rw [List.length_map]; omega)]
      intro a ha; cases ha
  obtain ⟨r1, r2⟩ := fold_val ts (bs.map roomB) hL n (by rw [List.length_map]; exact hn)
  refine ⟨r1, ?_⟩
  unfold roomsL
  rw [r2, hb n hn, (hB _).2]

theorem refAmount (v : Int) : thicketref08_amount.f v = some (amountI v) := by
  unfold thicketref08_amount.f amountI
  split <;> rfl
theorem refLargest_ev (t0 : Int) (ns : List S66) (hl : ns.length ≤ 9223372036854775807) : ∀ (d i : Nat) (m : Int), i + d = ns.length → Ev (fun k => thicketref08_Largest.l0 k m (i : Int) t0 ns) (largestG ns d i m) := by
  intro d
  induction d with
  | zero =>
    intro i m hi
    refine Ev.step (f := fun k => _) (fun k => rfl) ?_
    exact evn (by omega) (Ev.now _)
  | succ d ih =>
    intro i m hi
    have e1 : wrap64 ((i : Int) + 1) = ((i + 1 : Nat) : Int) := by unfold wrap64; omega
    refine Ev.step (f := fun k => _) (fun k => rfl) ?_
    refine evp (by omega) (evp (by omega) ?_)
    rw [refAmount]
    refine Ev.congr (fun k => Option.bind_some _ _) ?_
    unfold largestG
    by_cases h1 : (rd_T66 ns (i : Int)).f0 = 1
    · rw [if_pos h1]
      refine evp h1 ?_
      unfold mx
      by_cases h2 : m < amountI (rd_T66 ns (i : Int)).f1
      · rw [if_pos h2]
        refine evp h2 ?_
        rw [e1]; exact ih (i + 1) _ (by omega)
      · rw [if_neg h2]
        refine evn h2 ?_
        rw [e1]; exact ih (i + 1) _ (by omega)
    · rw [if_neg h1]
      refine evn h1 ?_
      rw [e1]; exact ih (i + 1) _ (by omega)
/-- Two words, as limbs. -/
def four (lo hi : Int) : List Int := [(Go.bits .and .u64 lo 4294967295) % 4294967296, (lo / 4294967296) % 4294967296, (Go.bits .and .u64 hi 4294967295) % 4294967296, (hi / 4294967296) % 4294967296]
theorem four_val (lo hi : Int) (h0 : 0 ≤ lo) (h1 : lo < 18446744073709551616) (g0 : 0 ≤ hi) (g1 : hi < 18446744073709551616) : Limbs (four lo hi) ∧ valL (four lo hi) = lo + 18446744073709551616 * hi := by
  unfold four
  rw [and_low lo h0 h1, and_low hi g0 g1]
  refine ⟨?_, ?_⟩
  · intro a ha
    simp only [List.mem_cons, List.not_mem_nil, or_false] at ha
    rcases ha with rfl | rfl | rfl | rfl <;> omega
  · simp only [valL]
    omega
section
variable (nm : ByteArray) (fs : List ByteArray) (outs : Int) (bs : List Int) (ts : List S36)
theorem room_l0 (n : Int) (hts : TreesOk ts) (hl : ts.length ≤ 4398046511104) : ∀ (d i : Nat) (lo hi : Int), i + d = ts.length → 0 ≤ lo → lo < 18446744073709551616 → 0 ≤ hi → hi + d < 18446744073709551616 →
    ∃ lo' hi', 0 ≤ lo' ∧ lo' < 18446744073709551616 ∧ 0 ≤ hi' ∧ hi' < 18446744073709551616 ∧ lo' + 18446744073709551616 * hi' = lo + 18446744073709551616 * hi + sumG n (ts.drop i) ∧
      Ev (fun k => thicketref08_Room.l0 k n lo hi (i : Int) nm fs outs bs ts) (strip (four lo' hi'), 0) := by
  intro d
  induction d with
  | zero =>
    intro i lo hi hi_ h0 h1 g0 g1
    refine ⟨lo, hi, h0, h1, g0, by omega, by rw [List.drop_eq_nil_of_le (by omega)]; show _ = _ + (0 : Int); omega, ?_⟩
    refine Ev.step (f := fun k => _) (fun k => rfl) ?_
    refine evn (by omega) ?_
    exact Ev.bind (norm_ev (four lo hi) (by show 4 ≤ _; omega)) (Ev.now _)
  | succ d ih =>
    intro i lo hi hi_ h0 h1 g0 g1
    have e1 : wrap64 ((i : Int) + 1) = ((i + 1 : Nat) : Int) := by unfold wrap64; omega
    obtain ⟨y, hy⟩ : ∃ y, y = rd_T36 ts (i : Int) := ⟨_, rfl⟩
    have hyi : y = ts[i]'(by omega) := by
      rw [hy]
      unfold rd_T36
      rw [Int.toNat_natCast, List.getD_eq_getElem?_getD, List.getElem?_eq_getElem (by omega)]
      rfl
    have hdrop : sumG n (ts.drop i) = (if y.f0 = n then largestV y.f1 else 0) + sumG n (ts.drop (i + 1)) := by
      rw [List.drop_eq_getElem_cons (by omega : i < ts.length), ← hyi]
      rfl
    have hmem : y ∈ ts := by rw [hyi]; exact List.getElem_mem _
    have hlen := (hts y hmem).1
    subst hy
    by_cases hc : (rd_T36 ts (i : Int)).f0 = n
    · rw [if_pos hc] at hdrop
      obtain ⟨v, hv⟩ : ∃ v, v = largestV (rd_T36 ts (i : Int)).f1 := ⟨_, rfl⟩
      have hvb := largestV_bd (rd_T36 ts (i : Int)).f1
      rw [← hv] at hdrop hvb
      have gl : Ev (fun k => thicketref08_Largest.f k (rd_T36 ts (i : Int)).f0 (rd_T36 ts (i : Int)).f1) v := by
        rw [hv]
        exact refLargest_ev _ _ (by omega) _ 0 0 (by omega)
      by_cases hov : (lo + v) % 18446744073709551616 < v
      · obtain ⟨lo', hi', a1, a2, a3, a4, a5, a6⟩ := ih (i + 1) ((lo + v) % 18446744073709551616) (hi + 1) (by omega) (by omega) (by omega) (by omega) (by omega)
        refine ⟨lo', hi', a1, a2, a3, a4, by omega, ?_⟩
        refine Ev.step (f := fun k => _) (fun k => rfl) ?_
        refine evp (by omega) (evp (by omega) (evp hc ?_))
        refine Ev.bind gl ?_
        rw [wrap_u64, wrap_u64, e1, show (hi + 1) % 18446744073709551616 = hi + 1 by omega]
        exact evp hov a6
      · obtain ⟨lo', hi', a1, a2, a3, a4, a5, a6⟩ := ih (i + 1) ((lo + v) % 18446744073709551616) hi (by omega) (by omega) (by omega) (by omega) (by omega)
        refine ⟨lo', hi', a1, a2, a3, a4, by omega, ?_⟩
        refine Ev.step (f := fun k => _) (fun k => rfl) ?_
        refine evp (by omega) (evp (by omega) (evp hc ?_))
        refine Ev.bind gl ?_
        rw [wrap_u64, e1]
        exact evn hov a6
    · rw [if_neg hc] at hdrop
      obtain ⟨lo', hi', a1, a2, a3, a4, a5, a6⟩ := ih (i + 1) lo hi (by omega) h0 h1 g0 (by omega)
      refine ⟨lo', hi', a1, a2, a3, a4, by omega, ?_⟩
      refine Ev.step (f := fun k => _) (fun k => rfl) ?_
      refine evp (by omega) (evp (by omega) (evn hc ?_))
      rw [e1]
      exact a6
/-- The document's Room of an output. -/
theorem room_total (hts : TreesOk ts) (hl : ts.length ≤ 4398046511104) (n : Nat) (hn : n < bs.length) (hbl : bs.length ≤ 17592186044416) :
    (∃ k, thicketref08_Room.f k nm fs outs bs ts (n : Int) = some (strip ((roomsL bs ts).getD n []), 0)) ∧ (strip ((roomsL bs ts).getD n [])).length ≤ 4 := by
  have ha := amount_bd (rd bs (n : Int))
  obtain ⟨lo', hi', a1, a2, a3, a4, a5, a6⟩ := room_l0 nm fs outs bs ts (n : Int) hts hl ts.length 0 (amountI (rd bs (n : Int))) 0 (by omega) ha.1 ha.2 (by omega) (by omega)
  obtain ⟨f1, f2⟩ := four_val lo' hi' a1 a2 a3 a4
  obtain ⟨r1, r2⟩ := rooms_val bs ts n hn
  have hs : strip (four lo' hi') = strip ((roomsL bs ts).getD n []) := strip_uniq _ _ f1 r1 (by rw [f2, r2, a5, List.drop_zero]; omega)
  rw [hs] at a6
  refine ⟨Ev.rounds (g := fun k => thicketref08_Room.f k nm fs outs bs ts (n : Int)) ?_, ?_⟩
  · unfold thicketref08_Room.f
    refine evn (by omega) ?_
    rw [decide_eq_false (by omega : ¬ (n : Int) ≥ (bs.length : Int))]
    refine Ev.step (f := fun k => _) (fun k => rfl) ?_
    refine evp (by omega) ?_
    rw [refAmount]
    refine Ev.congr (fun k => Option.bind_some _ _) ?_
    exact a6
  · rw [← hs, strip_length]
    exact Nat.le_trans (stripN_le _ _) (Nat.le_refl 4)
theorem rooms_total (hts : TreesOk ts) (hbl : bs.length ≤ 17592186044416) : ts.length ≤ 65536 → ∀ n : Nat, n < bs.length → (∃ k, thicketref08_Room.f k nm fs outs bs ts (n : Int) = some (strip ((roomsL bs ts).getD n []), 0)) ∧ ∃ k, thicketref01_Cmp.f k (strip ((roomsL bs ts).getD n [])) mostL = some (cmpL (strip ((roomsL bs ts).getD n [])) (strip mostL)) := by
  intro hl n hn
  obtain ⟨h1, h2⟩ := room_total nm fs outs bs ts hts (by omega) n hn hbl
  refine ⟨h1, ?_⟩
  have h3 : mostL.length ≤ 2 := by unfold mostL; rw [strip_length]; exact stripN_le _ _
  obtain ⟨k, hk⟩ := cmp_total (strip ((roomsL bs ts).getD n [])) mostL (by omega) (by omega)
  rw [strip_strip (rooms_val bs ts n hn).1] at hk
  exact ⟨k, hk⟩

/-! ### the copy -/
theorem nodes_l0 (ns : List S66) (hn : ns.length ≤ 1759218604441) (hx : ∀ x ∈ ns, x.f3 < 2 ^ 64 ∧ x.f4.length ≤ 17592186043904) : ∀ d i : Nat, i + d = ns.length → Ev (fun k => thicketref07_Nodes.l0 k (ns.take i) ns (ns.length : Int) (i : Int)) ns := by
  intro d
  induction d with
  | zero =>
    intro i hi
    refine Ev.step (f := fun k => _) (fun k => rfl) ?_
    refine evn (by omega) ?_
    refine eve (Ev.now _) ?_
    exact List.take_of_length_le (by omega)
  | succ d ih =>
    intro i hi
    have e1 : wrap64 ((i : Int) + 1) = ((i + 1 : Nat) : Int) := by unfold wrap64; omega
    have hyi : rd_T66 ns (i : Int) = ns[i]'(by omega) := by
      unfold rd_T66
      rw [Int.toNat_natCast, List.getD_eq_getElem?_getD, List.getElem?_eq_getElem (by omega)]
      rfl
    have hc := (hx _ (hyi ▸ List.getElem_mem (by omega : i < ns.length) : rd_T66 ns (i : Int) ∈ ns)).2
    refine Ev.step (f := fun k => _) (fun k => rfl) ?_
    refine evp (by omega) (evp (by omega) (evp (by omega) (evp (by show 0 + _ < _; omega) (evp (by rw [List.length_take]; omega) ?_))))
    rw [e1, List.nil_append]
    have e2 : ns.take i ++ [(⟨(rd_T66 ns (i : Int)).f0, (rd_T66 ns (i : Int)).f1, (rd_T66 ns (i : Int)).f2, (rd_T66 ns (i : Int)).f3, (rd_T66 ns (i : Int)).f4, (rd_T66 ns (i : Int)).f5, (rd_T66 ns (i : Int)).f6, (rd_T66 ns (i : Int)).f7⟩ : S66)] = ns.take (i + 1) := by
      rw [List.take_add_one, List.getElem?_eq_getElem (by omega)]
      show ns.take i ++ [rd_T66 ns (i : Int)] = _
      rw [hyi]
      rfl
    rw [e2]
    exact ih (i + 1) (by omega)
theorem copy_l0 (fs2 : List ByteArray) (bs2 : List Int) (hts : TreesOk ts) (hl : ts.length ≤ 4398046511104) : ∀ d i : Nat, i + d = ts.length → Ev (fun k => thicketref07_Copy.l0 k (ts.take i) ts (ts.length : Int) (i : Int) nm fs2 outs bs2 ts) (nm, fs2, outs, bs2, ts) := by
  intro d
  induction d with
  | zero =>
    intro i hi
    refine Ev.step (f := fun k => _) (fun k => rfl) ?_
    refine evn (by omega) ?_
    refine eve (Ev.now _) ?_
    rw [List.take_of_length_le (by omega)]
  | succ d ih =>
    intro i hi
    have e1 : wrap64 ((i : Int) + 1) = ((i + 1 : Nat) : Int) := by unfold wrap64; omega
    have hyi : rd_T36 ts (i : Int) = ts[i]'(by omega) := by
      unfold rd_T36
      rw [Int.toNat_natCast, List.getD_eq_getElem?_getD, List.getElem?_eq_getElem (by omega)]
      rfl
    have hc := hts _ (hyi ▸ List.getElem_mem (by omega : i < ts.length) : rd_T36 ts (i : Int) ∈ ts)
    have gn : Ev (fun k => thicketref07_Nodes.f k (rd_T36 ts (i : Int)).f1) (rd_T36 ts (i : Int)).f1 := nodes_l0 _ hc.1 hc.2 (rd_T36 ts (i : Int)).f1.length 0 (by omega)
    refine Ev.step (f := fun k => _) (fun k => rfl) ?_
    refine evp (by omega) (evp (by omega) (evp (by omega) ?_))
    refine Ev.bind gn ?_
    refine evp (by rw [List.length_take]; omega) ?_
    rw [e1]
    have e2 : ts.take i ++ [(⟨(rd_T36 ts (i : Int)).f0, (rd_T36 ts (i : Int)).f1⟩ : S36)] = ts.take (i + 1) := by
      rw [List.take_add_one, List.getElem?_eq_getElem (by omega)]
      show ts.take i ++ [rd_T36 ts (i : Int)] = _
      rw [hyi]
      rfl
    rw [e2]
    exact ih (i + 1) (by omega)
theorem copy_total (hts : TreesOk ts) (hf : fs.length < 8796093022208) (hb : bs.length < 17592186044416) (hl : ts.length ≤ 4398046511104) : ∃ k, thicketref07_Copy.f k nm fs outs bs ts = some (nm, fs, outs, bs, ts) := by
  refine Ev.rounds (g := fun k => thicketref07_Copy.f k nm fs outs bs ts) ?_
  unfold thicketref07_Copy.f
  refine evp (by show 0 + _ < _; omega) (evp (by show 0 + _ < _; omega) ?_)
  rw [List.nil_append, List.nil_append]
  exact copy_l0 nm outs ts fs bs hts hl ts.length 0 (by omega)
end
end Go.Proofs.YtkemfbocojoagaaDoor.FAll
