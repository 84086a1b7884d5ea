/-
  Plain: naturals as limbs; the rooms of the program are the document's.
-/
import Derived.Test.YtkemfbocojoagaaDoorPt
namespace Go.Proofs.YtkemfbocojoagaaDoor.FAll
open Go.RowKit Go.Proofs.YtkemfbocojoagaaDoorW.PrintWords Go.Proofs.YtkemfbocojoagaaDoorW.PrintLast Go.Proofs.YtkemfbocojoagaaDoorW.PrintMore
set_option linter.unusedVariables false
set_option linter.unusedSimpArgs false

theorem wraps_u64 (n : Int) (h₀ : 0 ≤ n) (h₁ : n < 2 ^ 64) : IntKind.u64.wrap n = n := by rw [IntKind.wrap_u64]; omega
theorem and_low (u : Int) (h0 : 0 ≤ u) (h1 : u < 18446744073709551616) : Go.bits .and .u64 u 4294967295 = u % 4294967296 := by
  obtain ⟨v, rfl⟩ := Int.eq_ofNat_of_zero_le h0
  have e := (bits_nat .u64 64 (by decide) wraps_u64 v (2 ^ 32 - 1) (by omega) (by decide)).1
  rw [Nat.and_two_pow_sub_one_eq_mod] at e
  exact e
theorem wrap_u64 (x : Int) : IntKind.u64.wrap x = x % 18446744073709551616 := IntKind.wrap_u64 x

/-! ### naturals as limbs -/
def valL : List Int → Int
  | [] => 0
  | a :: l => a + 4294967296 * valL l
def Limbs (l : List Int) : Prop := ∀ a ∈ l, 0 ≤ a ∧ a < 4294967296
theorem Limbs.tail {a : Int} {l : List Int} (h : Limbs (a :: l)) : Limbs l := fun x hx => h x (List.mem_cons_of_mem _ hx)
theorem Limbs.head {a : Int} {l : List Int} (h : Limbs (a :: l)) : 0 ≤ a ∧ a < 4294967296 := h a (List.mem_cons_self ..)
theorem valL_nonneg : ∀ {l : List Int}, Limbs l → 0 ≤ valL l
  | [], _ => Int.le_refl 0
  | a :: l, h => by have := valL_nonneg h.tail; have := h.head; unfold valL; omega
theorem stripN_cons (a : Int) (l : List Int) : ∀ n, stripN (a :: l) (n + 1) = if stripN l n = 0 then (if a = 0 then 0 else 1) else stripN l n + 1 := by
  intro n
  induction n with
  | zero =>
    show (if rd (a :: l) ((0 : Nat) : Int) = 0 then stripN (a :: l) 0 else 0 + 1) = _
    have e : rd (a :: l) ((0 : Nat) : Int) = a := rfl
    rw [e]
    rfl
  | succ n ih =>
    show (if rd (a :: l) ((n + 1 : Nat) : Int) = 0 then stripN (a :: l) (n + 1) else n + 1 + 1) = if (if rd l (n : Int) = 0 then stripN l n else n + 1) = 0 then _ else (if rd l (n : Int) = 0 then stripN l n else n + 1) + 1
    have e : rd (a :: l) ((n + 1 : Nat) : Int) = rd l (n : Int) := by
      unfold rd
      rw [Int.toNat_natCast, Int.toNat_natCast]
      rfl
    rw [e]
    by_cases h : rd l (n : Int) = 0
    · rw [if_pos h, if_pos h, ih]
    · rw [if_neg h, if_neg h, if_neg (by omega)]
theorem strip_cons (a : Int) (l : List Int) : strip (a :: l) = if strip l = [] then (if a = 0 then [] else [a]) else a :: strip l := by
  have hl : (strip l = []) ↔ stripN l l.length = 0 := by
    rw [← List.length_eq_zero_iff, strip_length]
  unfold strip at hl ⊢
  rw [List.length_cons, stripN_cons]
  by_cases h : stripN l l.length = 0
  · rw [if_pos h, if_pos (hl.2 h)]
    by_cases ha : a = 0
    · rw [if_pos ha, if_pos ha]; rfl
    · rw [if_neg ha, if_neg ha]; rfl
  · rw [if_neg h, if_neg (fun e => h (hl.1 e))]
    rfl
theorem strip_nil : strip [] = [] := rfl
theorem strip_val : ∀ l : List Int, valL (strip l) = valL l
  | [] => rfl
  | a :: l => by
    have ih := strip_val l
    rw [strip_cons]
    by_cases h : strip l = []
    · rw [h] at ih
      rw [if_pos h]
      replace ih : (0 : Int) = valL l := ih
      by_cases ha : a = 0
      · rw [if_pos ha]
        show (0 : Int) = a + 4294967296 * valL l
        omega
      · rw [if_neg ha]
        show a + 4294967296 * 0 = a + 4294967296 * valL l
        omega
    · rw [if_neg h]
      show a + 4294967296 * valL (strip l) = a + 4294967296 * valL l
      rw [ih]
theorem strip_limbs {l : List Int} (h : Limbs l) : Limbs (strip l) := fun a ha => h a (List.mem_of_mem_take ha)
theorem strip_zero : ∀ l : List Int, Limbs l → valL l = 0 → strip l = []
  | [], _, _ => rfl
  | a :: l, h, hv => by
    have h1 := h.head
    have h2 := valL_nonneg h.tail
    unfold valL at hv
    have hz : valL l = 0 := by omega
    rw [strip_cons, strip_zero l h.tail hz, if_pos rfl, if_pos (by omega)]
theorem strip_uniq : ∀ a b : List Int, Limbs a → Limbs b → valL a = valL b → strip a = strip b
  | [], b, ha, hb, h => by rw [strip_nil, strip_zero b hb (by rw [← h]; rfl)]
  | x :: a, [], ha, hb, h => by rw [strip_nil, strip_zero (x :: a) ha (by rw [h]; rfl)]
  | x :: a, y :: b, ha, hb, h => by
    have h1 := ha.head
    have h2 := hb.head
    have h3 := valL_nonneg ha.tail
    have h4 := valL_nonneg hb.tail
    unfold valL at h
    have hxy : x = y := by omega
    have hv : valL a = valL b := by omega
    rw [strip_cons, strip_cons, strip_uniq a b ha.tail hb.tail hv, hxy]
theorem strip_strip {l : List Int} (h : Limbs l) : strip (strip l) = strip l := strip_uniq _ _ (strip_limbs h) h (strip_val l)
theorem words_limbs (n : Int) (h0 : 0 ≤ n) (h1 : n < 18446744073709551616) : Limbs (words n) ∧ valL (words n) = n := by
  unfold words
  rw [and_low n h0 h1]
  refine ⟨?_, ?_⟩
  · intro a ha
    rcases List.mem_cons.1 ha with rfl | ha
    · omega
    · rcases List.mem_cons.1 ha with rfl | ha
      · omega
      · cases ha
  · simp only [valL]
    omega

/-! ### sums of limbs -/
theorem valL_append (a : List Int) (x : Int) : valL (a ++ [x]) = valL a + 4294967296 ^ a.length * x := by
  induction a with
  | nil => simp [valL]
  | cons y a ih =>
    rw [List.cons_append]
    unfold valL
    rw [ih, List.length_cons, Int.pow_succ, Int.mul_add, ← Int.mul_assoc, Int.mul_comm 4294967296 (4294967296 ^ a.length), Int.add_assoc]
theorem rd_drop (l : List Int) (i : Nat) (h : i < l.length) : valL (l.drop i) = rd l (i : Int) + 4294967296 * valL (l.drop (i + 1)) := by
  rw [List.drop_eq_getElem_cons h]
  show l[i] + _ = _
  unfold rd
  rw [Int.toNat_natCast, List.getD_eq_getElem?_getD, List.getElem?_eq_getElem h]
  rfl
theorem rd_limb {l : List Int} (h : Limbs l) (i : Nat) (hi : i < l.length) : 0 ≤ rd l (i : Int) ∧ rd l (i : Int) < 4294967296 := by
  have : rd l (i : Int) = l[i] := by
    unfold rd
    rw [Int.toNat_natCast, List.getD_eq_getElem?_getD, List.getElem?_eq_getElem hi]
    rfl
  rw [this]
  exact h _ (List.getElem_mem hi)
theorem addG_val (a b : List Int) (ha : Limbs a) (hb : Limbs b) (hab : b.length ≤ a.length) : ∀ (d i : Nat) (c : Int) (o : List Int), i + d = a.length → o.length = i → 0 ≤ c → c ≤ 1 → Limbs o →
    Limbs (addG a b d i c o) ∧ valL (addG a b d i c o) = valL o + 4294967296 ^ i * (valL (a.drop i) + valL (b.drop i) + c) := by
  intro d
  induction d with
  | zero =>
    intro i c o hi ho hc0 hc1 hL
    have e : addG a b 0 i c o = o ++ [c % 4294967296] := rfl
    rw [e]
    refine ⟨?_, ?_⟩
    · intro x hx
      rcases List.mem_append.1 hx with h | h
      · exact hL x h
      · obtain rfl : x = c % 4294967296 := by simpa using h
        omega
    · rw [valL_append, ho, List.drop_eq_nil_of_le (by omega), List.drop_eq_nil_of_le (by omega)]
      show _ = valL o + 4294967296 ^ i * (0 + 0 + c)
      rw [show c % 4294967296 = c by omega, Int.zero_add, Int.zero_add]
  | succ d ih =>
    intro i c o hi ho hc0 hc1 hL
    have ha2 := rd_limb ha i (by omega)
    obtain ⟨x, hx⟩ : ∃ x, x = rd a (i : Int) := ⟨_, rfl⟩
    rw [← hx] at ha2
    obtain ⟨y, hy⟩ : ∃ y, y = if (i : Int) < (b.length : Int) then rd b (i : Int) else 0 := ⟨_, rfl⟩
    have hb2 : 0 ≤ y ∧ y < 4294967296 := by
      rw [hy]
      by_cases h : (i : Int) < (b.length : Int)
      · rw [if_pos h]; exact rd_limb hb i (by omega)
      · rw [if_neg h]; omega
    have c2e : (if (i : Int) < (b.length : Int) then IntKind.u64.wrap (IntKind.u64.wrap (c + IntKind.u64.wrap (rd a (i : Int))) + IntKind.u64.wrap (rd b (i : Int))) else IntKind.u64.wrap (c + IntKind.u64.wrap (rd a (i : Int)))) = c + x + y := by
      rw [← hx]
      by_cases h : (i : Int) < (b.length : Int)
      · rw [if_pos h] at hy ⊢
        rw [← hy]
        simp only [wrap_u64]
        omega
      · rw [if_neg h] at hy ⊢
        simp only [wrap_u64]
        omega
    have e : addG a b (d + 1) i c o = addG a b d (i + 1) ((c + x + y) / 4294967296) (o ++ [(Go.bits .and .u64 (c + x + y) 4294967295) % 4294967296]) := by
      show addG a b d (i + 1) ((if (i : Int) < (b.length : Int) then IntKind.u64.wrap (IntKind.u64.wrap (c + IntKind.u64.wrap (rd a (i : Int))) + IntKind.u64.wrap (rd b (i : Int))) else IntKind.u64.wrap (c + IntKind.u64.wrap (rd a (i : Int)))) / 4294967296) (o ++ [(Go.bits .and .u64 (if (i : Int) < (b.length : Int) then IntKind.u64.wrap (IntKind.u64.wrap (c + IntKind.u64.wrap (rd a (i : Int))) + IntKind.u64.wrap (rd b (i : Int))) else IntKind.u64.wrap (c + IntKind.u64.wrap (rd a (i : Int)))) 4294967295) % 4294967296]) = _
      rw [c2e]
    rw [and_low _ (by omega) (by omega), Int.emod_emod_of_dvd _ (Int.dvd_refl _)] at e
    rw [e]
    obtain ⟨h1, h2⟩ := ih (i + 1) ((c + x + y) / 4294967296) (o ++ [(c + x + y) % 4294967296]) (by omega) (by simp [ho]) (by omega) (by omega) (by
      intro z hz
      rcases List.mem_append.1 hz with h | h
      · exact hL z h
      · obtain rfl : z = (c + x + y) % 4294967296 := by simpa using h
        omega)
    refine ⟨h1, ?_⟩
    rw [h2, valL_append, ho, rd_drop a i (by omega), ← hx]
    have hbd : valL (b.drop i) = y + 4294967296 * valL (b.drop (i + 1)) := by
      by_cases h : (i : Int) < (b.length : Int)
      · rw [if_pos h] at hy
        rw [hy]
        exact rd_drop b i (by omega)
      · rw [if_neg h] at hy
        rw [hy, List.drop_eq_nil_of_le (by omega), List.drop_eq_nil_of_le (by omega)]
        rfl
    rw [hbd, Int.pow_succ]
    obtain ⟨P, hP⟩ : ∃ P : Int, P = 4294967296 ^ i := ⟨_, rfl⟩
    rw [← hP]
    obtain ⟨A, hA⟩ : ∃ A, A = valL (a.drop (i + 1)) := ⟨_, rfl⟩
    obtain ⟨B, hB⟩ : ∃ B, B = valL (b.drop (i + 1)) := ⟨_, rfl⟩
    rw [← hA, ← hB]
    obtain ⟨q, hq⟩ : ∃ q, q = (c + x + y) / 4294967296 := ⟨_, rfl⟩
    obtain ⟨r, hr⟩ : ∃ r, r = (c + x + y) % 4294967296 := ⟨_, rfl⟩
    rw [← hq, ← hr]
    have hqr : c + x + y = 4294967296 * q + r := by omega
    have e2 : x + 4294967296 * A + (y + 4294967296 * B) + c = r + 4294967296 * (A + B + q) := by omega
    obtain ⟨M, hM⟩ : ∃ M, M = A + B + q := ⟨_, rfl⟩
    rw [e2, ← hM, Int.mul_add, Int.mul_assoc, Int.add_assoc]
theorem addL_val (a b : List Int) (ha : Limbs a) (hb : Limbs b) : Limbs (addL a b) ∧ valL (addL a b) = valL a + valL b := by
  unfold addL
  by_cases h : a.length < b.length
  · rw [if_pos h]
    obtain ⟨h1, h2⟩ := addG_val b a hb ha (by omega) b.length 0 0 [] (by omega) rfl (by omega) (by omega) (fun x hx => by cases hx)
    refine ⟨strip_limbs h1, ?_⟩
    rw [strip_val, h2]
    simp [valL]
    omega
  · rw [if_neg h]
    obtain ⟨h1, h2⟩ := addG_val a b ha hb (by omega) a.length 0 0 [] (by omega) rfl (by omega) (by omega) (fun x hx => by cases hx)
    refine ⟨strip_limbs h1, ?_⟩
    rw [strip_val, h2]
    simp [valL]

/-! ### the document's Norm, From, Cmp -/
theorem norm_l1 (l : List Int) (m : Nat) (hm : m ≤ l.length) (hl : l.length ≤ 35184372088832) : ∀ d i : Nat, i + d = m → Ev (fun k => thicketref01_Norm.l1 k l (m : Int) (l.take i) (i : Int)) (l.take m) := by
  intro d
  induction d with
  | zero =>
    intro i hi
    refine Ev.step (f := fun k => _) (fun k => rfl) ?_
    obtain rfl : i = m := by omega
    exact evn (by omega) (Ev.now _)
  | succ d ih =>
    intro i hi
    have e1 : wrap64 ((i : Int) + 1) = ((i + 1 : Nat) : Int) := by unfold wrap64; omega
    refine Ev.step (f := fun k => _) (fun k => rfl) ?_
    refine evp (by omega) (evp (by omega) (evp (by omega) (evp (by rw [List.length_take]; omega) ?_)))
    have e2 : l.take i ++ [rd l (i : Int)] = l.take (i + 1) := by
      rw [List.take_add_one, List.getElem?_eq_getElem (by omega)]
      unfold rd
      rw [Int.toNat_natCast, List.getD_eq_getElem?_getD, List.getElem?_eq_getElem (by omega)]
      rfl
    rw [e1, e2]
    exact ih (i + 1) (by omega)
theorem norm_l0 (l : List Int) (hl : l.length ≤ 35184372088832) : ∀ n : Nat, n ≤ l.length → Ev (fun k => thicketref01_Norm.l0 k l (n : Int)) (l.take (stripN l n)) := by
  intro n
  induction n with
  | zero =>
    intro hn
    refine Ev.step (f := fun k => _) (fun k => rfl) ?_
    refine evn (by omega) ?_
    refine Ev.step (f := fun k => _) (fun k => rfl) ?_
    exact norm_l1 l 0 (by omega) hl 0 0 rfl
  | succ n ih =>
    intro hn
    have e1 : wrap64 (((n + 1 : Nat) : Int) - 1) = (n : Int) := by unfold wrap64; omega
    refine Ev.step (f := fun k => _) (fun k => rfl) ?_
    refine evp (by omega) ?_
    rw [e1]
    refine evp (by omega) (evp (by omega) ?_)
    unfold stripN
    by_cases h : rd l (n : Int) = 0
    · rw [if_pos h]
      exact evp h (ih (by omega))
    · rw [if_neg h]
      refine evn h ?_
      refine Ev.step (f := fun k => _) (fun k => rfl) ?_
      exact norm_l1 l (n + 1) hn hl (n + 1) 0 (by omega)
theorem norm_ev (l : List Int) (hl : l.length ≤ 35184372088832) : Ev (fun k => thicketref01_Norm.f k l) (strip l) := norm_l0 l hl l.length (Nat.le_refl _)
theorem from_total (n : Int) : ∃ k, thicketref01_From.f k n = some (strip (words n)) :=
  (Ev.bind (norm_ev (words n) (by show 2 ≤ _; omega)) (Ev.now _)).rounds
theorem cmp_l0 (a b : List Int) (hab : a.length = b.length) (hl : a.length ≤ 35184372088832) : ∀ n : Nat, n ≤ a.length → Ev (fun k => thicketref01_Cmp.l0 k a b ((n : Int) - 1)) (cmpDown a b n) := by
  intro n
  induction n with
  | zero =>
    intro hn
    refine Ev.step (f := fun k => _) (fun k => rfl) ?_
    exact evn (by omega) (Ev.now _)
  | succ n ih =>
    intro hn
    have e0 : ((n + 1 : Nat) : Int) - 1 = (n : Int) := by omega
    have e1 : wrap64 ((n : Int) - 1) = (n : Int) - 1 := by unfold wrap64; omega
    rw [e0]
    refine Ev.step (f := fun k => _) (fun k => rfl) ?_
    refine evp (by omega) (evp (by omega) (evp (by omega) (evp (by omega) ?_)))
    unfold cmpDown
    by_cases h1 : rd a (n : Int) < rd b (n : Int)
    · rw [if_pos h1]
      exact evp h1 (Ev.now _)
    · rw [if_neg h1]
      refine evn h1 ?_
      by_cases h2 : rd b (n : Int) < rd a (n : Int)
      · rw [if_pos h2]
        exact evp h2 (Ev.now _)
      · rw [if_neg h2]
        refine evn h2 ?_
        rw [e1]
        exact ih (by omega)
theorem cmp_total (a b : List Int) (ha : a.length ≤ 35184372088832) (hb : b.length ≤ 35184372088832) : ∃ k, thicketref01_Cmp.f k a b = some (cmpL (strip a) (strip b)) := by
  refine (Ev.bind (norm_ev a ha) (Ev.bind (norm_ev b hb) ?_)).rounds
  have hsa : (strip a).length ≤ a.length := by rw [strip_length]; exact stripN_le _ _
  have e1 : wrap64 (((strip a).length : Int) - 1) = ((strip a).length : Int) - 1 := by unfold wrap64; omega
  unfold cmpL
  by_cases h : (strip a).length = (strip b).length
  · rw [if_pos h]
    refine evp (by omega) ?_
    rw [e1]
    exact cmp_l0 _ _ h (by omega) _ (Nat.le_refl _)
  · rw [if_neg h]
    refine evn (by omega) ?_
    by_cases h2 : (strip a).length < (strip b).length
    · rw [if_pos h2]
      exact evp (by omega) (Ev.now _)
    · rw [if_neg h2]
      exact evn (by omega) (Ev.now _)
end Go.Proofs.YtkemfbocojoagaaDoor.FAll
