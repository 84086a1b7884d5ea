/-
  Plain: naturals as limbs; what the rooms of the program are.
-/
import Derived.Test.YtpeiafamkajedaaDoorRj
namespace Go.Proofs.YtpeiafamkajedaaDoor.FAll
open Go.RowKit Go.Proofs.YtpeiafamkajedaaDoorW.PrintWords Go.Proofs.YtpeiafamkajedaaDoorW.PrintLast Go.Proofs.YtpeiafamkajedaaDoorW.PrintMore
set_option linter.unusedVariables false
set_option linter.unusedSimpArgs false

theorem wraps_u64 (n : Int) (h₀ : 0 ≤ n) (h₁ : n < 2 ^ 64) : IntKind.u64.wrap n = n := by rw [IntKind.wrap_u64]; omega
theorem and_low (u : Int) (h0 : 0 ≤ u) (h1 : u < 18446744073709551616) : Go.bits .and .u64 u 4294967295 = u % 4294967296 := by
  obtain ⟨v, rfl⟩ := Int.eq_ofNat_of_zero_le h0
  have e := (bits_nat .u64 64 (by decide) wraps_u64 v (2 ^ 32 - 1) (by omega) (by decide)).1
  rw [Nat.and_two_pow_sub_one_eq_mod] at e
  exact e
theorem wrap_u64 (x : Int) : IntKind.u64.wrap x = x % 18446744073709551616 := IntKind.wrap_u64 x

/-! ### naturals as limbs -/
def valL : List Int → Int
  | [] => 0
  | a :: l => a + 4294967296 * valL l
def Limbs (l : List Int) : Prop := ∀ a ∈ l, 0 ≤ a ∧ a < 4294967296
theorem Limbs.tail {a : Int} {l : List Int} (h : Limbs (a :: l)) : Limbs l := fun x hx => h x (List.mem_cons_of_mem _ hx)
theorem Limbs.head {a : Int} {l : List Int} (h : Limbs (a :: l)) : 0 ≤ a ∧ a < 4294967296 := h a (List.mem_cons_self ..)
theorem valL_nonneg : ∀ {l : List Int}, Limbs l → 0 ≤ valL l
  | [], _ => Int.le_refl 0
  | a :: l, h => by have := valL_nonneg h.tail; have := h.head; unfold valL; omega
theorem stripN_cons (a : Int) (l : List Int) : ∀ n, stripN (a :: l) (n + 1) = if stripN l n = 0 then (if a = 0 then 0 else 1) else stripN l n + 1 := by
  intro n
  induction n with
  | zero =>
    show (if rd (a :: l) ((0 : Nat) : Int) = 0 then stripN (a :: l) 0 else 0 + 1) = _
    have e : rd (a :: l) ((0 : Nat) : Int) = a := rfl
    rw [e]
    rfl
  | succ n ih =>
    show (if rd (a :: l) ((n + 1 : Nat) : Int) = 0 then stripN (a :: l) (n + 1) else n + 1 + 1) = if (if rd l (n : Int) = 0 then stripN l n else n + 1) = 0 then _ else (if rd l (n : Int) = 0 then stripN l n else n + 1) + 1
    have e : rd (a :: l) ((n + 1 : Nat) : Int) = rd l (n : Int) := by
      unfold rd
      rw [Int.toNat_natCast, Int.toNat_natCast]
      rfl
    rw [e]
    by_cases h : rd l (n : Int) = 0
    · rw [if_pos h, if_pos h, ih]
    · rw [if_neg h, if_neg h, if_neg (by omega)]
theorem strip_cons (a : Int) (l : List Int) : strip (a :: l) = if strip l = [] then (if a = 0 then [] else [a]) else a :: strip l := by
  have hl : (strip l = []) ↔ stripN l l.length = 0 := by
    rw [← List.length_eq_zero_iff, strip_length]
  unfold strip at hl ⊢
  rw [List.length_cons, stripN_cons]
  by_cases h : stripN l l.length = 0
  · rw [if_pos h, if_pos (hl.2 h)]
    by_cases ha : a = 0
    · rw [if_pos ha, if_pos ha]; rfl
    · rw [if_neg ha, if_neg ha]; rfl
  · rw [if_neg h, if_neg (fun e => h (hl.1 e))]
    rfl
theorem strip_nil : strip [] = [] := rfl
theorem strip_val : ∀ l : List Int, valL (strip l) = valL l
  | [] => rfl
  | a :: l => by
    have ih := strip_val l
    rw [strip_cons]
    by_cases h : strip l = []
    · rw [h] at ih
      rw [if_pos h]
      replace ih : (0 : Int) = valL l := ih
      by_cases ha : a = 0
      · rw [if_pos ha]
        show (0 : Int) = a + 4294967296 * valL l
        omega
      · rw [if_neg ha]
        show a + 4294967296 * 0 = a + 4294967296 * valL l
        omega
    · rw [if_neg h]
      show a + 4294967296 * valL (strip l) = a + 4294967296 * valL l
      rw [ih]
theorem strip_limbs {l : List Int} (h : Limbs l) : Limbs (strip l) := fun a ha => h a (List.mem_of_mem_take ha)
theorem strip_zero : ∀ l : List Int, Limbs l → valL l = 0 → strip l = []
  | [], _, _ => rfl
  | a :: l, h, hv => by
    have h1 := h.head
    have h2 := valL_nonneg h.tail
    unfold valL at hv
    have hz : valL l = 0 := by omega
    rw [strip_cons, strip_zero l h.tail hz, if_pos rfl, if_pos (by omega)]
theorem strip_uniq : ∀ a b : List Int, Limbs a → Limbs b → valL a = valL b → strip a = strip b
  | [], b, ha, hb, h => by rw [strip_nil, strip_zero b hb (by rw [← h]; rfl)]
  | x :: a, [], ha, hb, h => by rw [strip_nil, strip_zero (x :: a) ha (by rw [h]; rfl)]
  | x :: a, y :: b, ha, hb, h => by
    have h1 := ha.head
    have h2 := hb.head
    have h3 := valL_nonneg ha.tail
    have h4 := valL_nonneg hb.tail
    unfold valL at h
    have hxy : x = y := by omega
    have hv : valL a = valL b := by omega
    rw [strip_cons, strip_cons, strip_uniq a b ha.tail hb.tail hv, hxy]
theorem strip_strip {l : List Int} (h : Limbs l) : strip (strip l) = strip l := strip_uniq _ _ (strip_limbs h) h (strip_val l)
theorem words_limbs (n : Int) (h0 : 0 ≤ n) (h1 : n < 18446744073709551616) : Limbs (words n) ∧ valL (words n) = n := by
  unfold words
  rw [and_low n h0 h1]
  refine ⟨?_, ?_⟩
  · intro a ha
    rcases List.mem_cons.1 ha with rfl | ha
    · omega
    · rcases List.mem_cons.1 ha with rfl | ha
      · omega
      · cases ha
  · simp only [valL]
    omega

/-! ### sums of limbs -/
theorem valL_append (a : List Int) (x : Int) : valL (a ++ [x]) = valL a + 4294967296 ^ a.length * x := by
  induction a with
  | nil => simp [valL]
  | cons y a ih =>
    rw [List.cons_append]
    unfold valL
    rw [ih, List.length_cons, Int.pow_succ, Int.mul_add, ← Int.mul_assoc, Int.mul_comm 4294967296 (4294967296 ^ a.length), Int.add_assoc]
theorem rd_drop (l : List Int) (i : Nat) (h : i < l.length) : valL (l.drop i) = rd l (i : Int) + 4294967296 * valL (l.drop (i + 1)) := by
  rw [List.drop_eq_getElem_cons h]
  show l[i] + _ = _
  unfold rd
  rw [Int.toNat_natCast, List.getD_eq_getElem?_getD, List.getElem?_eq_getElem h]
  rfl
theorem rd_limb {l : List Int} (h : Limbs l) (i : Nat) (hi : i < l.length) : 0 ≤ rd l (i : Int) ∧ rd l (i : Int) < 4294967296 := by
  have : rd l (i : Int) = l[i] := by
    unfold rd
    rw [Int.toNat_natCast, List.getD_eq_getElem?_getD, List.getElem?_eq_getElem hi]
    rfl
  rw [this]
  exact h _ (List.getElem_mem hi)
theorem addG_val (a b : List Int) (ha : Limbs a) (hb : Limbs b) (hab : b.length ≤ a.length) : ∀ (d i : Nat) (c : Int) (o : List Int), i + d = a.length → o.length = i → 0 ≤ c → c ≤ 1 → Limbs o →
    Limbs (addG a b d i c o) ∧ valL (addG a b d i c o) = valL o + 4294967296 ^ i * (valL (a.drop i) + valL (b.drop i) + c) := by
  intro d
  induction d with
  | zero =>
    intro i c o hi ho hc0 hc1 hL
    have e : addG a b 0 i c o = o ++ [c % 4294967296] := rfl
    rw [e]
    refine ⟨?_, ?_⟩
    · intro x hx
      rcases List.mem_append.1 hx with h | h
      · exact hL x h
      · obtain rfl : x = c % 4294967296 := by simpa using h
        omega
    · rw [valL_append, ho, List.drop_eq_nil_of_le (by omega), List.drop_eq_nil_of_le (by omega)]
      show _ = valL o + 4294967296 ^ i * (0 + 0 + c)
      rw [show c % 4294967296 = c by omega, Int.zero_add, Int.zero_add]
  | succ d ih =>
    intro i c o hi ho hc0 hc1 hL
    have ha2 := rd_limb ha i (by omega)
    obtain ⟨x, hx⟩ : ∃ x, x = rd a (i : Int) := ⟨_, rfl⟩
    rw [← hx] at ha2
    obtain ⟨y, hy⟩ : ∃ y, y = if (i : Int) < (b.length : Int) then rd b (i : Int) else 0 := ⟨_, rfl⟩
    have hb2 : 0 ≤ y ∧ y < 4294967296 := by
      rw [hy]
      by_cases h : (i : Int) < (b.length : Int)
      · rw [if_pos h]; exact rd_limb hb i (by omega)
      · rw [if_neg h]; omega
    have c2e : (if (i : Int) < (b.length : Int) then IntKind.u64.wrap (IntKind.u64.wrap (c + IntKind.u64.wrap (rd a (i : Int))) + IntKind.u64.wrap (rd b (i : Int))) else IntKind.u64.wrap (c + IntKind.u64.wrap (rd a (i : Int)))) = c + x + y := by
      rw [← hx]
      by_cases h : (i : Int) < (b.length : Int)
      · rw [if_pos h] at hy ⊢
        rw [← hy]
        simp only [wrap_u64]
        omega
      · rw [if_neg h] at hy ⊢
        simp only [wrap_u64]
        omega
    have e : addG a b (d + 1) i c o = addG a b d (i + 1) ((c + x + y) / 4294967296) (o ++ [(Go.bits .and .u64 (c + x + y) 4294967295) % 4294967296]) := by
      show addG a b d (i + 1) ((if (i : Int) < (b.length : Int) then IntKind.u64.wrap (IntKind.u64.wrap (c + IntKind.u64.wrap (rd a (i : Int))) + IntKind.u64.wrap (rd b (i : Int))) else IntKind.u64.wrap (c + IntKind.u64.wrap (rd a (i : Int)))) / 4294967296) (o ++ [(Go.bits .and .u64 (if (i : Int) < (b.length : Int) then IntKind.u64.wrap (IntKind.u64.wrap (c + IntKind.u64.wrap (rd a (i : Int))) + IntKind.u64.wrap (rd b (i : Int))) else IntKind.u64.wrap (c + IntKind.u64.wrap (rd a (i : Int)))) 4294967295) % 4294967296]) = _
      rw [c2e]
    rw [and_low _ (by omega) (by omega), Int.emod_emod_of_dvd _ (Int.dvd_refl _)] at e
    rw [e]
    obtain ⟨h1, h2⟩ := ih (i + 1) ((c + x + y) / 4294967296) (o ++ [(c + x + y) % 4294967296]) (by omega) (by simp [ho]) (by omega) (by omega) (by
      intro z hz
      rcases List.mem_append.1 hz with h | h
      · exact hL z h
      · obtain rfl : z = (c + x + y) % 4294967296 := by simpa using h
        omega)
    refine ⟨h1, ?_⟩
    rw [h2, valL_append, ho, rd_drop a i (by omega), ← hx]
    have hbd : valL (b.drop i) = y + 4294967296 * valL (b.drop (i + 1)) := by
      by_cases h : (i : Int) < (b.length : Int)
      · rw [if_pos h] at hy
        rw [hy]
        exact rd_drop b i (by omega)
      · rw [if_neg h] at hy
        rw [hy, List.drop_eq_nil_of_le (by omega), List.drop_eq_nil_of_le (by omega)]
        rfl
    rw [hbd, Int.pow_succ]
    obtain ⟨P, hP⟩ : ∃ P : Int, P = 4294967296 ^ i := ⟨_, rfl⟩
    rw [← hP]
    obtain ⟨A, hA⟩ : ∃ A, A = valL (a.drop (i + 1)) := ⟨_, rfl⟩
    obtain ⟨B, hB⟩ : ∃ B, B = valL (b.drop (i + 1)) := ⟨_, rfl⟩
    rw [← hA, ← hB]
    obtain ⟨q, hq⟩ : ∃ q, q = (c + x + y) / 4294967296 := ⟨_, rfl⟩
    obtain ⟨r, hr⟩ : ∃ r, r = (c + x + y) % 4294967296 := ⟨_, rfl⟩
    rw [← hq, ← hr]
    have hqr : c + x + y = 4294967296 * q + r := by omega
    have e2 : x + 4294967296 * A + (y + 4294967296 * B) + c = r + 4294967296 * (A + B + q) := by omega
    obtain ⟨M, hM⟩ : ∃ M, M = A + B + q := ⟨_, rfl⟩
    rw [e2, ← hM, Int.mul_add, Int.mul_assoc, Int.add_assoc]
theorem addL_val (a b : List Int) (ha : Limbs a) (hb : Limbs b) : Limbs (addL a b) ∧ valL (addL a b) = valL a + valL b := by
  unfold addL
  by_cases h : a.length < b.length
  · rw [if_pos h]
    obtain ⟨h1, h2⟩ := addG_val b a hb ha (by omega) b.length 0 0 [] (by omega) rfl (by omega) (by omega) (fun x hx => by cases hx)
    refine ⟨strip_limbs h1, ?_⟩
    rw [strip_val, h2]
    simp [valL]
    omega
  · rw [if_neg h]
    obtain ⟨h1, h2⟩ := addG_val a b ha hb (by omega) a.length 0 0 [] (by omega) rfl (by omega) (by omega) (fun x hx => by cases hx)
    refine ⟨strip_limbs h1, ?_⟩
    rw [strip_val, h2]
    simp [valL]

theorem addL_strip (a b : List Int) (ha : Limbs a) (hb : Limbs b) : strip (addL a b) = addL a b := by
  unfold addL
  by_cases h : a.length < b.length
  · rw [if_pos h]
    exact strip_strip (addG_val b a hb ha (by omega) b.length 0 0 [] (by omega) rfl (by omega) (by omega) (fun x hx => by cases hx)).1
  · rw [if_neg h]
    exact strip_strip (addG_val a b ha hb (by omega) a.length 0 0 [] (by omega) rfl (by omega) (by omega) (fun x hx => by cases hx)).1

/-- An ensemble's trees as they can stand in memory. -/
def TreesOk (ts : List S37) : Prop := ∀ y ∈ ts, y.f1.length ≤ 1759218604441 ∧ ∀ x ∈ y.f1, x.f3 < 2 ^ 64 ∧ x.f4.length ≤ 17592186043904
theorem amount_bd (v : Int) : 0 ≤ amountI v ∧ amountI v < 18446744073709551616 := by
  unfold amountI
  split <;> rw [wrap_u64] <;> omega
theorem largestG_bd (ns : List S65) : ∀ (d i : Nat) (m : Int), 0 ≤ m ∧ m < 18446744073709551616 → 0 ≤ largestG ns d i m ∧ largestG ns d i m < 18446744073709551616 := by
  intro d
  induction d with
  | zero => intro i m h; exact h
  | succ d ih =>
    intro i m h
    unfold largestG
    refine ih (i + 1) _ ?_
    have := amount_bd (rd_T65 ns (i : Int)).f1
    split
    · unfold mx
      split <;> omega
    · exact h
theorem largestV_bd (ns : List S65) : 0 ≤ largestV ns ∧ largestV ns < 18446744073709551616 := largestG_bd ns ns.length 0 0 (by omega)
/-- The greatest leaves of an output's trees, added. -/
def sumG (n : Int) : List S37 → Int
  | [] => 0
  | t :: l => (if t.f0 = n then largestV t.f1 else 0) + sumG n l
theorem sumG_nonneg (n : Int) : ∀ l, 0 ≤ sumG n l
  | [] => Int.le_refl 0
  | t :: l => by
    have h := sumG_nonneg n l
    have h2 := largestV_bd t.f1
    unfold sumG
    split <;> omega
theorem word_limbs (ns : List S65) : Limbs (strip (words (largestV ns))) ∧ valL (strip (words (largestV ns))) = largestV ns := by
  have h := largestV_bd ns
  obtain ⟨h1, h2⟩ := words_limbs (largestV ns) h.1 h.2
  exact ⟨strip_limbs h1, by rw [strip_val, h2]⟩
theorem getD_set (o : List (List Int)) (i n : Nat) (x : List Int) (hi : i < o.length) : (o.set i x).getD n [] = if n = i then x else o.getD n [] := by
  rw [List.getD_eq_getElem?_getD, List.getD_eq_getElem?_getD, List.getElem?_set]
  by_cases h : i = n
  · subst h
    rw [if_pos rfl, if_pos rfl, if_pos hi]
    rfl
  · rw [if_neg h, if_neg (fun e => h e.symm)]
theorem fold_val : ∀ (l : List S37) (o : List (List Int)), (∀ j, Limbs (o.getD j [])) → ∀ n : Nat, n < o.length →
    Limbs ((l.foldl stepT o).getD n []) ∧ valL ((l.foldl stepT o).getD n []) = valL (o.getD n []) + sumG (n : Int) l := by
  intro l
  induction l with
  | nil => intro o h n hn; exact ⟨h n, by show _ = _ + (0 : Int); rw [Int.add_zero]; rfl⟩
  | cons t l ih =>
    intro o h n hn
    rw [List.foldl_cons]
    obtain ⟨w1, w2⟩ := word_limbs t.f1
    by_cases hc : 0 ≤ t.f0 ∧ t.f0 < (o.length : Int)
    · have hs : stepT o t = o.set t.f0.toNat (addL (o.getD t.f0.toNat []) (strip (words (largestV t.f1)))) := by unfold stepT; rw [if_pos hc]
      have hlt : t.f0.toNat < o.length := by omega
      obtain ⟨a1, a2⟩ := addL_val (o.getD t.f0.toNat []) (strip (words (largestV t.f1))) (h _) w1
      have h' : ∀ j, Limbs ((stepT o t).getD j []) := by
        intro j
        rw [hs, getD_set o _ j _ hlt]
        by_cases e : j = t.f0.toNat
        · rw [if_pos e]; exact a1
        · rw [if_neg e]; exact h j
      obtain ⟨r1, r2⟩ := ih (stepT o t) h' n (by rw [stepT_length]; exact hn)
      refine ⟨r1, ?_⟩
      rw [r2, hs, getD_set o _ n _ hlt]
      show _ = _ + ((if t.f0 = (n : Int) then largestV t.f1 else 0) + sumG (n : Int) l)
      by_cases e : n = t.f0.toNat
      · rw [if_pos e, if_pos (by omega), a2, w2, e]
        omega
      · rw [if_neg e, if_neg (by omega)]
        omega
    · have hs : stepT o t = o := by unfold stepT; rw [if_neg hc]
      rw [hs]
      obtain ⟨r1, r2⟩ := ih o h n hn
      refine ⟨r1, ?_⟩
      rw [r2]
      show _ = _ + ((if t.f0 = (n : Int) then largestV t.f1 else 0) + sumG (n : Int) l)
      rw [if_neg (by omega)]
      omega
theorem rooms_val (bs : List Int) (ts : List S37) (n : Nat) (hn : n < bs.length) :
    Limbs ((roomsL bs ts).getD n []) ∧ valL ((roomsL bs ts).getD n []) = amountI (rd bs (n : Int)) + sumG (n : Int) ts := by
  have hb : ∀ j, j < bs.length → (bs.map roomB).getD j [] = roomB (rd bs (j : Int)) := by
    intro j hj
    unfold rd
    rw [List.getD_eq_getElem?_getD, List.getElem?_map, List.getElem?_eq_getElem hj, Int.toNat_natCast, List.getD_eq_getElem?_getD, List.getElem?_eq_getElem hj]
    rfl
  have hB : ∀ v, Limbs (roomB v) ∧ valL (roomB v) = amountI v := by
    intro v
    have h := amount_bd v
    obtain ⟨h1, h2⟩ := words_limbs (amountI v) h.1 h.2
    exact ⟨strip_limbs h1, by unfold roomB; rw [strip_val, h2]⟩
  have hL : ∀ j, Limbs ((bs.map roomB).getD j []) := by
    intro j
    by_cases hj : j < bs.length
    · rw [hb j hj]; exact (hB _).1
    · rw [List.getD_eq_getElem?_getD, List.getElem?_eq_none (by rw [List.length_map]; omega)]
      intro a ha; cases ha
  obtain ⟨r1, r2⟩ := fold_val ts (bs.map roomB) hL n (by rw [List.length_map]; exact hn)
  refine ⟨r1, ?_⟩
  unfold roomsL
  rw [r2, hb n hn, (hB _).2]

/-- The rooms have no needless limbs. -/
theorem fold_strip : ∀ (l : List S37) (o : List (List Int)), (∀ j, Limbs (o.getD j [])) → (∀ j, strip (o.getD j []) = o.getD j []) → ∀ j, strip ((l.foldl stepT o).getD j []) = (l.foldl stepT o).getD j [] := by
  intro l
  induction l with
  | nil => intro o h hs j; exact hs j
  | cons t l ih =>
    intro o h hs j
    rw [List.foldl_cons]
    obtain ⟨w1, w2⟩ := word_limbs t.f1
    by_cases hc : 0 ≤ t.f0 ∧ t.f0 < (o.length : Int)
    · have hst : stepT o t = o.set t.f0.toNat (addL (o.getD t.f0.toNat []) (strip (words (largestV t.f1)))) := by unfold stepT; rw [if_pos hc]
      have hlt : t.f0.toNat < o.length := by omega
      have ha := addL_val (o.getD t.f0.toNat []) (strip (words (largestV t.f1))) (h _) w1
      refine ih _ (fun j => ?_) (fun j => ?_) j
      · rw [hst, getD_set o _ j _ hlt]
        by_cases e : j = t.f0.toNat
        · rw [if_pos e]; exact ha.1
        · rw [if_neg e]; exact h j
      · rw [hst, getD_set o _ j _ hlt]
        by_cases e : j = t.f0.toNat
        · rw [if_pos e]
          exact addL_strip _ _ (h _) w1
        · rw [if_neg e]; exact hs j
    · have hst : stepT o t = o := by unfold stepT; rw [if_neg hc]
      rw [hst]
      exact ih o h hs j
theorem rooms_strip (bs : List Int) (ts : List S37) (j : Nat) : strip ((roomsL bs ts).getD j []) = (roomsL bs ts).getD j [] := by
  have hb : ∀ j, j < bs.length → (bs.map roomB).getD j [] = roomB (rd bs (j : Int)) := by
    intro j hj
    unfold rd
    rw [List.getD_eq_getElem?_getD, List.getElem?_map, List.getElem?_eq_getElem hj, Int.toNat_natCast, List.getD_eq_getElem?_getD, List.getElem?_eq_getElem hj]
    rfl
  have hn : ∀ j, ¬ j < bs.length → (bs.map roomB).getD j [] = [] := by
    intro j hj
    rw [List.getD_eq_getElem?_getD, List.getElem?_eq_none (by rw [List.length_map]; omega)]
    rfl
  have hw : ∀ v, Limbs (words (amountI v)) := fun v => (words_limbs (amountI v) (amount_bd v).1 (amount_bd v).2).1
  refine fold_strip ts _ (fun j => ?_) (fun j => ?_) j
  · by_cases hj : j < bs.length
    · rw [hb j hj]; exact strip_limbs (hw _)
    · rw [hn j hj]; intro a ha; cases ha
  · by_cases hj : j < bs.length
    · rw [hb j hj]; exact strip_strip (hw _)
    · rw [hn j hj]; rfl
end Go.Proofs.YtpeiafamkajedaaDoor.FAll
