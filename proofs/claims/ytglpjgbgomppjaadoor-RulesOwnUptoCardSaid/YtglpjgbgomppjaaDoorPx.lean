/-
  Plain: the document's Norm, Largest and Room.
-/
import Derived.Test.YtglpjgbgomppjaaDoorPw
namespace Go.Proofs.YtglpjgbgomppjaaDoor.FAll
open Go.RowKit Go.Proofs.YtglpjgbgomppjaaDoorW.PrintWords Go.Proofs.YtglpjgbgomppjaaDoorW.PrintLast Go.Proofs.YtglpjgbgomppjaaDoorW.PrintMore
set_option linter.unusedVariables false
set_option linter.unusedSimpArgs false

/-! ### the document's Norm, From, Cmp -/
theorem norm_l1 (l : List Int) (m : Nat) (hm : m ≤ l.length) (hl : l.length ≤ 35184372088832) : ∀ d i : Nat, i + d = m → Ev (fun k => thicketref01_Norm.l1 k l (m : Int) (l.take i) (i : Int)) (l.take m) := by
  intro d
  induction d with
  | zero =>
    intro i hi
    refine Ev.step (f := fun k => _) (fun k => rfl) ?_
    obtain rfl : i = m := by omega
    exact evn (by omega) (Ev.now _)
  | succ d ih =>
    intro i hi
    have e1 : wrap64 ((i : Int) + 1) = ((i + 1 : Nat) : Int) := by unfold wrap64; omega
    refine Ev.step (f := fun k => _) (fun k => rfl) ?_
    refine evp (by omega) (evp (by omega) (evp (by omega) (evp (by rw [List.length_take]; omega) ?_)))
    have e2 : l.take i ++ [rd l (i : Int)] = l.take (i + 1) := by
      rw [List.take_add_one, List.getElem?_eq_getElem (by omega)]
      unfold rd
      rw [Int.toNat_natCast, List.getD_eq_getElem?_getD, List.getElem?_eq_getElem (by omega)]
      rfl
    rw [e1, e2]
    exact ih (i + 1) (by omega)
theorem norm_l0 (l : List Int) (hl : l.length ≤ 35184372088832) : ∀ n : Nat, n ≤ l.length → Ev (fun k => thicketref01_Norm.l0 k l (n : Int)) (l.take (stripN l n)) := by
  intro n
  induction n with
  | zero =>
    intro hn
    refine Ev.step (f := fun k => _) (fun k => rfl) ?_
    refine evn (by omega) ?_
    refine Ev.step (f := fun k => _) (fun k => rfl) ?_
    exact norm_l1 l 0 (by omega) hl 0 0 rfl
  | succ n ih =>
    intro hn
    have e1 : wrap64 (((n + 1 : Nat) : Int) - 1) = (n : Int) := by unfold wrap64; omega
    refine Ev.step (f := fun k => _) (fun k => rfl) ?_
    refine evp (by omega) ?_
    rw [e1]
    refine evp (by omega) (evp (by omega) ?_)
    unfold stripN
    by_cases h : rd l (n : Int) = 0
    · rw [if_pos h]
      exact evp h (ih (by omega))
    · rw [if_neg h]
      refine evn h ?_
      refine Ev.step (f := fun k => _) (fun k => rfl) ?_
      exact norm_l1 l (n + 1) hn hl (n + 1) 0 (by omega)
theorem norm_ev (l : List Int) (hl : l.length ≤ 35184372088832) : Ev (fun k => thicketref01_Norm.f k l) (strip l) := norm_l0 l hl l.length (Nat.le_refl _)
theorem refAmount (v : Int) : thicketref08_amount.f v = some (amountI v) := by
  unfold thicketref08_amount.f amountI
  split <;> rfl
theorem refLargest_ev (t0 : Int) (ns : List S40) (hl : ns.length ≤ 9223372036854775807) : ∀ (d i : Nat) (m : Int), i + d = ns.length → Ev (fun k => thicketref08_Largest.l0 k m (i : Int) t0 ns) (largestG ns d i m) := by
  intro d
  induction d with
  | zero =>
    intro i m hi
    refine Ev.step (f := fun k => _) (fun k => rfl) ?_
    exact evn (by omega) (Ev.now _)
  | succ d ih =>
    intro i m hi
    have e1 : wrap64 ((i : Int) + 1) = ((i + 1 : Nat) : Int) := by unfold wrap64; omega
    refine Ev.step (f := fun k => _) (fun k => rfl) ?_
    refine evp (by omega) (evp (by omega) ?_)
    rw [refAmount]
    refine Ev.congr (fun k => Option.bind_some _ _) ?_
    unfold largestG
    by_cases h1 : (rd_T40 ns (i : Int)).f0 = 1
    · rw [if_pos h1]
      refine evp h1 ?_
      unfold mx
      by_cases h2 : m < amountI (rd_T40 ns (i : Int)).f1
      · rw [if_pos h2]
        refine evp h2 ?_
        rw [e1]; exact ih (i + 1) _ (by omega)
      · rw [if_neg h2]
        refine evn h2 ?_
        rw [e1]; exact ih (i + 1) _ (by omega)
    · rw [if_neg h1]
      refine evn h1 ?_
      rw [e1]; exact ih (i + 1) _ (by omega)
/-- Two words, as limbs. -/
def four (lo hi : Int) : List Int := [(Go.bits .and .u64 lo 4294967295) % 4294967296, (lo / 4294967296) % 4294967296, (Go.bits .and .u64 hi 4294967295) % 4294967296, (hi / 4294967296) % 4294967296]
theorem four_val (lo hi : Int) (h0 : 0 ≤ lo) (h1 : lo < 18446744073709551616) (g0 : 0 ≤ hi) (g1 : hi < 18446744073709551616) : Limbs (four lo hi) ∧ valL (four lo hi) = lo + 18446744073709551616 * hi := by
  unfold four
  rw [and_low lo h0 h1, and_low hi g0 g1]
  refine ⟨?_, ?_⟩
  · intro a ha
    simp only [List.mem_cons, List.not_mem_nil, or_false] at ha
    rcases ha with rfl | rfl | rfl | rfl <;> omega
  · simp only [valL]
    omega
section
variable (nm : ByteArray) (fs : List ByteArray) (outs : Int) (bs : List Int) (ts : List S33)
theorem room_l0 (n : Int) (hts : TreesOk ts) (hl : ts.length ≤ 4398046511104) : ∀ (d i : Nat) (lo hi : Int), i + d = ts.length → 0 ≤ lo → lo < 18446744073709551616 → 0 ≤ hi → hi + d < 18446744073709551616 →
    ∃ lo' hi', 0 ≤ lo' ∧ lo' < 18446744073709551616 ∧ 0 ≤ hi' ∧ hi' < 18446744073709551616 ∧ lo' + 18446744073709551616 * hi' = lo + 18446744073709551616 * hi + sumG n (ts.drop i) ∧
      Ev (fun k => thicketref08_Room.l0 k n lo hi (i : Int) nm fs outs bs ts) (strip (four lo' hi'), 0) := by
  intro d
  induction d with
  | zero =>
    intro i lo hi hi_ h0 h1 g0 g1
    refine ⟨lo, hi, h0, h1, g0, by omega, by rw [List.drop_eq_nil_of_le (by omega)]; show _ = _ + (0 : Int); omega, ?_⟩
    refine Ev.step (f := fun k => _) (fun k => rfl) ?_
    refine evn (by omega) ?_
    exact Ev.bind (norm_ev (four lo hi) (by show 4 ≤ _; omega)) (Ev.now _)
  | succ d ih =>
    intro i lo hi hi_ h0 h1 g0 g1
    have e1 : wrap64 ((i : Int) + 1) = ((i + 1 : Nat) : Int) := by unfold wrap64; omega
    obtain ⟨y, hy⟩ : ∃ y, y = rd_T33 ts (i : Int) := ⟨_, rfl⟩
    have hyi : y = ts[i]'(by omega) := by
      rw [hy]
      unfold rd_T33
      rw [Int.toNat_natCast, List.getD_eq_getElem?_getD, List.getElem?_eq_getElem (by omega)]
      rfl
    have hdrop : sumG n (ts.drop i) = (if y.f0 = n then largestV y.f1 else 0) + sumG n (ts.drop (i + 1)) := by
      rw [List.drop_eq_getElem_cons (by omega : i < ts.length), ← hyi]
      rfl
    have hmem : y ∈ ts := by rw [hyi]; exact List.getElem_mem _
    have hlen := (hts y hmem).1
    subst hy
    by_cases hc : (rd_T33 ts (i : Int)).f0 = n
    · rw [if_pos hc] at hdrop
      obtain ⟨v, hv⟩ : ∃ v, v = largestV (rd_T33 ts (i : Int)).f1 := ⟨_, rfl⟩
      have hvb := largestV_bd (rd_T33 ts (i : Int)).f1
      rw [← hv] at hdrop hvb
      have gl : Ev (fun k => thicketref08_Largest.f k (rd_T33 ts (i : Int)).f0 (rd_T33 ts (i : Int)).f1) v := by
        rw [hv]
        exact refLargest_ev _ _ (by omega) _ 0 0 (by omega)
      by_cases hov : (lo + v) % 18446744073709551616 < v
      · obtain ⟨lo', hi', a1, a2, a3, a4, a5, a6⟩ := ih (i + 1) ((lo + v) % 18446744073709551616) (hi + 1) (by omega) (by omega) (by omega) (by omega) (by omega)
        refine ⟨lo', hi', a1, a2, a3, a4, by omega, ?_⟩
        refine Ev.step (f := fun k => _) (fun k => rfl) ?_
        refine evp (by omega) (evp (by omega) (evp hc ?_))
        refine Ev.bind gl ?_
        rw [wrap_u64, wrap_u64, e1, show (hi + 1) % 18446744073709551616 = hi + 1 by omega]
        exact evp hov a6
      · obtain ⟨lo', hi', a1, a2, a3, a4, a5, a6⟩ := ih (i + 1) ((lo + v) % 18446744073709551616) hi (by omega) (by omega) (by omega) (by omega) (by omega)
        refine ⟨lo', hi', a1, a2, a3, a4, by omega, ?_⟩
        refine Ev.step (f := fun k => _) (fun k => rfl) ?_
        refine evp (by omega) (evp (by omega) (evp hc ?_))
        refine Ev.bind gl ?_
        rw [wrap_u64, e1]
        exact evn hov a6
    · rw [if_neg hc] at hdrop
      obtain ⟨lo', hi', a1, a2, a3, a4, a5, a6⟩ := ih (i + 1) lo hi (by omega) h0 h1 g0 (by omega)
      refine ⟨lo', hi', a1, a2, a3, a4, by omega, ?_⟩
      refine Ev.step (f := fun k => _) (fun k => rfl) ?_
      refine evp (by omega) (evp (by omega) (evn hc ?_))
      rw [e1]
      exact a6
/-- The document's Room of an output. -/
theorem room_total (hts : TreesOk ts) (hl : ts.length ≤ 4398046511104) (n : Nat) (hn : n < bs.length) (hbl : bs.length ≤ 17592186044416) :
    (∃ k, thicketref08_Room.f k nm fs outs bs ts (n : Int) = some (strip ((roomsL bs ts).getD n []), 0)) ∧ (strip ((roomsL bs ts).getD n [])).length ≤ 4 := by
  have ha := amount_bd (rd bs (n : Int))
  obtain ⟨lo', hi', a1, a2, a3, a4, a5, a6⟩ := room_l0 nm fs outs bs ts (n : Int) hts hl ts.length 0 (amountI (rd bs (n : Int))) 0 (by omega) ha.1 ha.2 (by omega) (by omega)
  obtain ⟨f1, f2⟩ := four_val lo' hi' a1 a2 a3 a4
  obtain ⟨r1, r2⟩ := rooms_val bs ts n hn
  have hs : strip (four lo' hi') = strip ((roomsL bs ts).getD n []) := strip_uniq _ _ f1 r1 (by rw [f2, r2, a5, List.drop_zero]; omega)
  rw [hs] at a6
  refine ⟨Ev.rounds (g := fun k => thicketref08_Room.f k nm fs outs bs ts (n : Int)) ?_, ?_⟩
  · unfold thicketref08_Room.f
    refine evn (by omega) ?_
    rw [decide_eq_false (by omega : ¬ (n : Int) ≥ (bs.length : Int))]
    refine Ev.step (f := fun k => _) (fun k => rfl) ?_
    refine evp (by omega) ?_
    rw [refAmount]
    refine Ev.congr (fun k => Option.bind_some _ _) ?_
    exact a6
  · rw [← hs, strip_length]
    exact Nat.le_trans (stripN_le _ _) (Nat.le_refl 4)
end
end Go.Proofs.YtglpjgbgomppjaaDoor.FAll
