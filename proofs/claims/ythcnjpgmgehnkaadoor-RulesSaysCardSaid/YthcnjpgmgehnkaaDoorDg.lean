/-
  What the document's Print of From answers: the decimal numeral, for every number of 64 bits. Plain facts.
-/
import Derived.Test.YthcnjpgmgehnkaaDoorFAllx3
import Derived.Lib.ItoaNum
namespace Go.Proofs.YthcnjpgmgehnkaaDoor
set_option linter.unusedVariables false
set_option linter.unusedSimpArgs false
open Go.RowKit Go.Proofs.YthcnjpgmgehnkaaDoor.FAll Go.Proofs.YthcnjpgmgehnkaaDoorW.PrintWords Go.Proofs.YthcnjpgmgehnkaaDoorW.PrintLast Go.Proofs.YthcnjpgmgehnkaaDoorW.PrintMore

section
variable {α β : Type} {r : α}
theorem Ev.pos {c : Prop} [Decidable c] {g f : Nat → Option α} (h : c) (H : Ev g r) : Ev (fun k => if c then g k else f k) r := H.congr fun k => if_pos h
theorem Ev.neg {c : Prop} [Decidable c] {g f : Nat → Option α} (h : ¬ c) (H : Ev f r) : Ev (fun k => if c then g k else f k) r := H.congr fun k => if_neg h
theorem Ev.eq {g : Nat → Option α} {v : α} (H : Ev g v) (h : v = r) : Ev g r := h ▸ H
end
theorem w64 {x : Int} (h0 : -9223372036854775808 ≤ x) (h1 : x ≤ 9223372036854775807) : wrap64 x = x := by unfold wrap64; omega
theorem wu64 {x : Int} (h0 : 0 ≤ x) (h1 : x ≤ 18446744073709551615) : IntKind.u64.wrap x = x := by rw [IntKind.wrap_u64]; omega

theorem wraps_u64 (n : Int) (h₀ : 0 ≤ n) (h₁ : n < 2 ^ 64) : IntKind.u64.wrap n = n := by rw [IntKind.wrap_u64]; omega
theorem and_low (u : Nat) (h : u < 18446744073709551616) : bits .and .u64 (u : Int) 4294967295 = ((u % 4294967296 : Nat) : Int) := by
  have e := (bits_nat .u64 64 (by decide) wraps_u64 u (2 ^ 32 - 1) (by omega) (by decide)).1
  rw [Nat.and_two_pow_sub_one_eq_mod] at e
  exact e
theorem or_low (r x : Nat) (hr : r < 1000000000) (hx : x < 4294967296) : bits .or .u64 ((r * 4294967296 : Nat) : Int) (x : Int) = ((r * 4294967296 + x : Nat) : Int) := by
  have e := (bits_nat .u64 64 (by decide) wraps_u64 (r * 4294967296) x (by omega) (by omega)).2
  have o := Nat.two_pow_add_eq_or_of_lt (i := 32) (b := x) (by omega) r
  have c : (2 : Nat) ^ 32 * r = r * 4294967296 := by omega
  rw [c] at o
  rw [← o] at e
  exact e

/-- The limbs of a number of 64 bits. -/
def limbs (u : Nat) : List Int := if u = 0 then [] else if u < 4294967296 then [(u : Int)] else [((u % 4294967296 : Nat) : Int), ((u / 4294967296 : Nat) : Int)]

theorem rd0 (a : Int) (l : List Int) : rd (a :: l) 0 = a := rfl
theorem rd1 (a b : Int) (l : List Int) : rd (a :: b :: l) 1 = b := rfl

theorem norm0 : Ev (fun k => thicketref01_Norm.f k []) [] := Ev.of (fun k => thicketref01_Norm.mono _ k) (k := 6) (by
  simp [thicketref01_Norm.f, thicketref01_Norm.l0, thicketref01_Norm.j1, thicketref01_Norm.l1])
theorem norm1 {a : Int} (h : a ≠ 0) : Ev (fun k => thicketref01_Norm.f k [a]) [a] := Ev.of (fun k => thicketref01_Norm.mono _ k) (k := 6) (by
  simp [thicketref01_Norm.f, thicketref01_Norm.l0, thicketref01_Norm.j1, thicketref01_Norm.l1, rd, wrap64, h])
theorem norm1z : Ev (fun k => thicketref01_Norm.f k [0]) [] := Ev.of (fun k => thicketref01_Norm.mono _ k) (k := 6) (by
  simp [thicketref01_Norm.f, thicketref01_Norm.l0, thicketref01_Norm.j1, thicketref01_Norm.l1, rd, wrap64])
theorem norm2 {a b : Int} (h : b ≠ 0) : Ev (fun k => thicketref01_Norm.f k [a, b]) [a, b] := Ev.of (fun k => thicketref01_Norm.mono _ k) (k := 7) (by
  simp [thicketref01_Norm.f, thicketref01_Norm.l0, thicketref01_Norm.j1, thicketref01_Norm.l1, rd, wrap64, h])
theorem norm2z {a : Int} (h : a ≠ 0) : Ev (fun k => thicketref01_Norm.f k [a, 0]) [a] := Ev.of (fun k => thicketref01_Norm.mono _ k) (k := 7) (by
  simp [thicketref01_Norm.f, thicketref01_Norm.l0, thicketref01_Norm.j1, thicketref01_Norm.l1, rd, wrap64, h])
theorem norm2zz : Ev (fun k => thicketref01_Norm.f k [0, 0]) [] := Ev.of (fun k => thicketref01_Norm.mono _ k) (k := 7) (by
  simp [thicketref01_Norm.f, thicketref01_Norm.l0, thicketref01_Norm.j1, thicketref01_Norm.l1, rd, wrap64])

/-- Two words, normed. -/
theorem norm_two (lo hi : Nat) (h : lo < 4294967296) : Ev (fun k => thicketref01_Norm.f k [(lo : Int), (hi : Int)]) (limbs (hi * 4294967296 + lo)) := by
  unfold limbs
  by_cases h1 : hi = 0
  · subst h1
    by_cases h2 : lo = 0
    · subst h2; exact norm2zz
    · rw [if_neg (by omega), if_pos (by omega)]
      exact Ev.eq (norm2z (a := (lo : Int)) (by omega)) (by simp)
  · rw [if_neg (by omega), if_neg (by omega)]
    refine Ev.eq (norm2 (a := (lo : Int)) (b := (hi : Int)) (by omega)) ?_
    have e1 : (hi * 4294967296 + lo) % 4294967296 = lo := by omega
    have e2 : (hi * 4294967296 + lo) / 4294967296 = hi := by omega
    rw [e1, e2]
theorem norm_limbs (u : Nat) (h : u < 18446744073709551616) : Ev (fun k => thicketref01_Norm.f k (limbs u)) (limbs u) := by
  unfold limbs
  split
  · exact norm0
  · split
    · exact norm1 (by omega)
    · exact norm2 (by omega)

theorem from_f (u : Nat) (h : u < 18446744073709551616) : Ev (fun k => thicketref01_From.f k (u : Int)) (limbs u) := by
  unfold thicketref01_From.f
  refine Ev.bind (a := limbs u) ?_ (Ev.now _)
  have e1 : bits .and .u64 (u : Int) 4294967295 % 4294967296 = ((u % 4294967296 : Nat) : Int) := by rw [and_low u h]; omega
  have e2 : ((u : Int) / 4294967296) % 4294967296 = ((u / 4294967296 : Nat) : Int) := by omega
  rw [e1, e2]
  exact Ev.eq (norm_two _ _ (Nat.mod_lt _ (by decide))) (by rw [Nat.div_add_mod'])

/-- One step of the division by a word. -/
theorem join {r x : Nat} (hr : r < 1000000000) (hx : x < 4294967296) : bits .or .u64 (IntKind.u64.wrap ((r : Int) * 4294967296)) (IntKind.u64.wrap (x : Int)) = ((r * 4294967296 + x : Nat) : Int) := by
  rw [wu64 (by omega) (by omega), wu64 (x := (x : Int)) (by omega) (by omega), show ((r : Int) * 4294967296) = ((r * 4294967296 : Nat) : Int) by omega]
  exact or_low r x hr hx
theorem div_step {x q : List Int} {r i xi : Nat} {R : List Int × List Int × Int} (hi : i < x.length) (hl : x.length ≤ 2) (hx : rd x (i : Int) = (xi : Int)) (hxi : xi < 4294967296) (hr : r < 1000000000) (hq : i < q.length)
    (H : Ev (fun k => thicketref01_DivMod.l0 k x [1000000000] (q.set i (((r * 4294967296 + xi) / 1000000000 : Nat) : Int)) (((r * 4294967296 + xi) % 1000000000 : Nat) : Int) ((i : Int) - 1)) R) :
    Ev (fun k => thicketref01_DivMod.l0 k x [1000000000] q (r : Int) (i : Int)) R := by
  refine Ev.step (f := fun k => _) (fun k => rfl) ?_
  refine Ev.pos (by omega) ?_
  refine Ev.pos (by omega) ?_
  refine Ev.pos (by omega) ?_
  refine Ev.pos (by decide) ?_
  refine Ev.neg (by decide) ?_
  refine Ev.pos (by omega) ?_
  refine Ev.congr (fun k => ?_) H
  have w : IntKind.u64.wrap (rd [1000000000] 0) = ((1000000000 : Nat) : Int) := by decide
  rw [hx, join hr hxi, w, Int.tdiv_eq_ediv_of_nonneg (by omega), Int.tmod_eq_emod_of_nonneg (by omega), w64 (by omega) (by omega), Int.toNat_natCast]
  rw [show ((((r * 4294967296 + xi : Nat) : Int) / ((1000000000 : Nat) : Int))) = (((r * 4294967296 + xi) / 1000000000 : Nat) : Int) by omega, wu64 (by omega) (by omega),
    show ((((r * 4294967296 + xi) / 1000000000 : Nat) : Int) % 4294967296) = (((r * 4294967296 + xi) / 1000000000 : Nat) : Int) by omega,
    show ((((r * 4294967296 + xi : Nat) : Int) % ((1000000000 : Nat) : Int))) = (((r * 4294967296 + xi) % 1000000000 : Nat) : Int) by omega]
theorem div_end {x q : List Int} {r u : Nat} (hr : r = u % 1000000000) (hq : Ev (fun k => thicketref01_Norm.f k q) (limbs (u / 1000000000))) :
    Ev (fun k => thicketref01_DivMod.l0 k x [1000000000] q (r : Int) (-1)) (limbs (u / 1000000000), limbs (u % 1000000000), 0) := by
  refine Ev.step (f := fun k => _) (fun k => rfl) ?_
  refine Ev.neg (by decide) ?_
  refine Ev.bind hq ?_
  subst hr
  refine Ev.bind (from_f _ (by omega)) ?_
  exact Ev.now _
theorem divmod_f (u : Nat) (h : u < 18446744073709551616) :
    Ev (fun k => thicketref01_DivMod.f k (limbs u) [1000000000]) (limbs (u / 1000000000), limbs (u % 1000000000), 0) := by
  unfold thicketref01_DivMod.f
  refine Ev.bind (norm_limbs u h) ?_
  refine Ev.bind (norm1 (a := 1000000000) (by decide)) ?_
  refine Ev.neg (by decide) ?_
  have hl : (limbs u).length ≤ 2 := by unfold limbs; split <;> (try split) <;> simp
  refine Ev.pos (by omega) ?_
  refine Ev.pos (by omega) ?_
  refine Ev.congr (fun k => Option.bind_some _ _) ?_
  refine Ev.pos (by decide) ?_
  by_cases h0 : u = 0
  · subst h0
    have w : wrap64 (((limbs 0).length : Int) - 1) = -1 := by rw [show limbs 0 = [] from rfl]; simp [wrap64]
    rw [w]
    exact div_end (x := []) (q := []) (r := 0) (u := 0) rfl norm0
  · by_cases h1 : u < 4294967296
    · have e : limbs u = [(u : Int)] := by unfold limbs; rw [if_neg h0, if_pos h1]
      rw [e]
      have w : wrap64 (([(u : Int)].length : Int) - 1) = ((0 : Nat) : Int) := by simp [wrap64]
      rw [w]
      refine div_step (x := [(u : Int)]) (q := [0]) (r := 0) (i := 0) (xi := u) (by simp) (by simp) rfl h1 (by decide) (by simp) ?_
      refine div_end (u := u) (by simp) ?_
      simp only [Nat.zero_mul, Nat.zero_add, List.set_cons_zero]
      have := norm_limbs (u / 1000000000) (by omega)
      by_cases h2 : u / 1000000000 = 0
      · rw [h2]; exact norm1z
      · unfold limbs at this ⊢
        rw [if_neg h2, if_pos (by omega)] at this ⊢
        exact this
    · have e : limbs u = [((u % 4294967296 : Nat) : Int), ((u / 4294967296 : Nat) : Int)] := by unfold limbs; rw [if_neg h0, if_neg h1]
      rw [e]
      have w : wrap64 (([((u % 4294967296 : Nat) : Int), ((u / 4294967296 : Nat) : Int)].length : Int) - 1) = ((1 : Nat) : Int) := by simp [wrap64]
      rw [w]
      refine div_step (x := [((u % 4294967296 : Nat) : Int), ((u / 4294967296 : Nat) : Int)]) (q := [0, 0]) (r := 0) (i := 1) (xi := u / 4294967296) (by simp) (by simp) rfl (by omega) (by decide) (by simp) ?_
      refine div_step (x := [((u % 4294967296 : Nat) : Int), ((u / 4294967296 : Nat) : Int)]) (r := (0 * 4294967296 + u / 4294967296) % 1000000000) (i := 0) (xi := u % 4294967296) (by simp) (by simp) rfl (by omega) (by omega) (by simp) ?_
      have hq : ((0 * 4294967296 + u / 4294967296) / 1000000000) * 4294967296 + ((0 * 4294967296 + u / 4294967296) % 1000000000 * 4294967296 + u % 4294967296) / 1000000000 = u / 1000000000 := by omega
      have hm : ((0 * 4294967296 + u / 4294967296) % 1000000000 * 4294967296 + u % 4294967296) % 1000000000 = u % 1000000000 := by omega
      refine div_end (u := u) hm ?_
      rw [← hq]
      exact norm_two _ _ (by omega)

theorem small_f (v : Nat) (h : v < 1000000000) : Ev (fun k => thicketref01_Small.f k (limbs v)) ((v : Int), true) := by
  unfold thicketref01_Small.f
  refine Ev.bind (norm_limbs v (by omega)) ?_
  by_cases h0 : v = 0
  · subst h0
    rw [show limbs 0 = [] from rfl]
    refine Ev.neg (by decide) ?_
    exact Ev.step (f := fun k => _) (fun k => rfl) (Ev.neg (by simp [wrap64]) (Ev.now _))
  · have e : limbs v = [(v : Int)] := by unfold limbs; rw [if_neg h0, if_pos (by omega)]
    rw [e]
    refine Ev.neg (by simp) ?_
    refine Ev.step (f := fun k => _) (fun k => rfl) ?_
    refine Ev.pos (by simp [wrap64]) ?_
    refine Ev.pos (by simp [wrap64]) ?_
    refine Ev.pos (by simp [wrap64]) ?_
    refine Ev.step (f := fun k => _) (fun k => rfl) ?_
    refine Ev.neg (by simp [wrap64]) ?_
    have j := join (r := 0) (x := v) (by decide) (by omega)
    have z : rd [(v : Int)] (wrap64 (([(v : Int)].length : Int) - 1)) = (v : Int) := by simp [wrap64, rd]
    rw [z]
    refine Ev.eq (Ev.now _) ?_
    have j' : bits .or .u64 (IntKind.u64.wrap ((0 : Int) * 4294967296)) (IntKind.u64.wrap (v : Int)) = (v : Int) := by simpa using j
    rw [j']

/-- The digits of a number, the last one first. -/
def backs (u : Nat) : List Int := if h : u = 0 then [] else ((48 + u % 10 : Nat) : Int) :: backs (u / 10)
termination_by u
decreasing_by omega
theorem backs_zero : backs 0 = [] := by rw [backs, dif_pos rfl]
theorem backs_pos {u : Nat} (h : u ≠ 0) : backs u = ((48 + u % 10 : Nat) : Int) :: backs (u / 10) := by rw [backs, dif_neg h]
theorem backs_dec (u : Nat) (h : u ≠ 0) : (strOfNums (backs u).reverse) = ⟨(Lib.decDigits u).toArray⟩ := by
  unfold strOfNums
  congr 2
  induction u using Nat.strongRecOn with
  | _ u ih =>
    rw [backs_pos h, Lib.decDigits]
    by_cases h1 : u < 10
    · rw [dif_pos h1, show u / 10 = 0 by omega, backs_zero]
      show [UInt8.ofNat (48 + u % 10)] = _
      rw [Nat.mod_eq_of_lt h1]
    · rw [dif_neg h1, ← ih (u / 10) (by omega) (by omega), List.reverse_cons, List.map_append]
      rfl
theorem backs_length (u n : Nat) (h : u < 10 ^ n) : (backs u).length ≤ n := by
  induction n generalizing u with
  | zero => rw [show u = 0 by simpa using h, backs_zero]; simp
  | succ n ih =>
    by_cases h0 : u = 0
    · rw [h0, backs_zero]; simp
    · rw [backs_pos h0]
      have := ih (u / 10) (by rw [Nat.pow_succ] at h; omega)
      simp only [List.length_cons]; omega

theorem back_loop (L : List Int) (hL : L.length ≤ 100) : ∀ (i : Nat), i ≤ L.length → ∀ out : List Int, out.length ≤ 100 - i → Ev (fun k => thicketref01_Print.l2 k L out ((i : Int) - 1)) (strOfNums (out ++ (L.take i).reverse)) := by
  intro i
  induction i with
  | zero =>
    intro _ out _
    refine Ev.step (f := fun k => _) (fun k => rfl) ?_
    refine Ev.neg (by decide) ?_
    exact Ev.eq (Ev.now _) (by simp)
  | succ i ih =>
    intro hi out ho
    have e : ((i + 1 : Nat) : Int) - 1 = (i : Int) := by omega
    rw [e]
    refine Ev.step (f := fun k => _) (fun k => rfl) ?_
    refine Ev.pos (by omega) ?_
    refine Ev.pos (by omega) ?_
    refine Ev.pos (by omega) ?_
    refine Ev.pos (by omega) ?_
    rw [w64 (by omega) (by omega)]
    refine Ev.eq (ih (by omega) (out ++ [rd L (i : Int)]) (by simp; omega)) ?_
    congr 1
    have h1 : (L.take (i + 1)).reverse = L[i] :: (L.take i).reverse := by
      rw [List.take_add_one, List.getElem?_eq_getElem (by omega), List.reverse_append]; rfl
    rw [h1]
    simp [rd, List.getD_eq_getElem?_getD, List.getElem?_eq_getElem (show i < L.length by omega)]

theorem print_loop (u : Nat) (hu : u < 18446744073709551616) (back : List Int) (hb : back.length + (backs u).length ≤ 50) :
    Ev (fun k => thicketref01_Print.l0 k (limbs u) back) (strOfNums (back ++ backs u).reverse) := by
  induction u using Nat.strongRecOn generalizing back with
  | _ u ih =>
    by_cases h0 : u = 0
    · subst h0
      have hz : (limbs 0).length = 0 := rfl
      generalize limbs 0 = L at hz ⊢
      refine Ev.step (f := fun k => _) (fun k => rfl) ?_
      refine Ev.neg (by omega) ?_
      rw [w64 (by omega) (by omega)]
      refine Ev.eq (back_loop back (by omega) back.length (Nat.le_refl _) [] (by simp)) ?_
      rw [backs_zero]; simp
    · have hl : 0 < (limbs u).length := by unfold limbs; rw [if_neg h0]; split <;> simp
      refine Ev.step (f := fun k => _) (fun k => rfl) ?_
      refine Ev.pos (by omega) ?_
      refine Ev.bind (divmod_f u hu) ?_
      refine Ev.bind (small_f (u % 1000000000) (by omega)) ?_
      have inner : ∀ (d n i : Nat) (bk : List Int), i + d = 9 → n < 10 ^ d → bk.length + (backs ((u / 1000000000) * 10 ^ d + n)).length ≤ 50 →
          Ev (fun k => thicketref01_Print.l1 k (limbs (u / 1000000000)) bk (n : Int) (i : Int)) (strOfNums (bk ++ backs ((u / 1000000000) * 10 ^ d + n)).reverse) := by
        intro d
        induction d with
        | zero =>
          intro n i bk hi hn hk
          have hn0 : n = 0 := by simpa using hn
          subst hn0
          refine Ev.step (f := fun k => _) (fun k => rfl) ?_
          refine Ev.neg (by omega) ?_
          simp only [Nat.pow_zero, Nat.mul_one, Nat.add_zero] at hk ⊢
          exact ih (u / 1000000000) (by omega) (by omega) bk hk
        | succ d ihd =>
          intro n i bk hi hn hk
          refine Ev.step (f := fun k => _) (fun k => rfl) ?_
          refine Ev.pos (by omega) ?_
          have hp : (10 : Nat) ^ (d + 1) = 10 * 10 ^ d := by rw [Nat.pow_succ]; omega
          rw [hp] at hn hk ⊢
          have hmul : u / 1000000000 * (10 * 10 ^ d) = 10 * (u / 1000000000 * 10 ^ d) := by rw [← Nat.mul_assoc, Nat.mul_comm _ 10, Nat.mul_assoc]
          rw [hmul] at hk ⊢
          have go : ¬ (10 * (u / 1000000000 * 10 ^ d) + n = 0) → Ev (fun k => if bk.length < 140737488355328 then thicketref01_Print.l1 k (limbs (u / 1000000000)) (bk ++ [(IntKind.u64.wrap (48 + (Int.tmod (n : Int) 10))) % 256]) (IntKind.u64.wrap (Int.tdiv (n : Int) 10)) (wrap64 ((i : Int) + 1)) else none) (strOfNums (bk ++ backs (10 * (u / 1000000000 * 10 ^ d) + n)).reverse) := by
            intro hne
            refine Ev.pos (by omega) ?_
            have m1 : Int.tmod (n : Int) 10 = ((n % 10 : Nat) : Int) := by rw [Int.tmod_eq_emod_of_nonneg (by omega)]; omega
            have m2 : Int.tdiv (n : Int) 10 = ((n / 10 : Nat) : Int) := by rw [Int.tdiv_eq_ediv_of_nonneg (by omega)]; omega
            have hn2 : n < 10 ^ 9 := Nat.lt_of_lt_of_le hn (by rw [← hp]; exact Nat.pow_le_pow_right (by decide) (by omega))
            rw [m1, m2, wu64 (by omega) (by omega), wu64 (by omega) (by omega), w64 (by omega) (by omega)]
            have hb1 := backs_pos hne
            have e1 : (10 * (u / 1000000000 * 10 ^ d) + n) % 10 = n % 10 := by omega
            have e2 : (10 * (u / 1000000000 * 10 ^ d) + n) / 10 = u / 1000000000 * 10 ^ d + n / 10 := by omega
            rw [e1, e2] at hb1
            rw [hb1] at hk ⊢
            simp only [List.length_cons] at hk
            have e3 : ((48 + ((n % 10 : Nat) : Int)) % 256) = ((48 + n % 10 : Nat) : Int) := by omega
            have e4 : ((i : Int) + 1) = ((i + 1 : Nat) : Int) := by omega
            rw [e3, e4]
            refine Ev.eq (ihd (n / 10) (i + 1) (bk ++ [((48 + n % 10 : Nat) : Int)]) (by omega) (by omega) (by simp; omega)) ?_
            simp
          by_cases hn0 : n > 0
          · refine Ev.pos (by omega) ?_
            exact go (by omega)
          · refine Ev.neg (by omega) ?_
            by_cases hq : u / 1000000000 = 0
            · have : (limbs (u / 1000000000)).length = 0 := by rw [hq]; rfl
              refine Ev.neg (by omega) ?_
              refine Ev.eq (ih (u / 1000000000) (by omega) (by omega) bk (by rw [hq, backs_zero]; simp; omega)) ?_
              rw [hq, show n = 0 by omega]
              simp
            · have hl2 : 0 < (limbs (u / 1000000000)).length := by unfold limbs; rw [if_neg hq]; split <;> simp
              refine Ev.pos (by omega) ?_
              have hpp : 0 < 10 ^ d := Nat.pow_pos (by decide)
              have := Nat.mul_pos (Nat.pos_of_ne_zero hq) hpp
              exact go (by omega)
      have hd : u / 1000000000 * 10 ^ 9 + u % 1000000000 = u := by omega
      have := inner 9 (u % 1000000000) 0 back rfl (by omega) (by rw [hd]; exact hb)
      rw [hd] at this
      exact this

theorem print_f (u : Nat) (hu : u < 18446744073709551616) : Ev (fun k => thicketref01_Print.f k (limbs u)) ⟨(Lib.decDigits u).toArray⟩ := by
  unfold thicketref01_Print.f
  refine Ev.bind (norm_limbs u hu) ?_
  by_cases h0 : u = 0
  · subst h0
    refine Ev.pos (by decide) ?_
    refine Ev.eq (Ev.now _) ?_
    rw [Lib.decDigits_one (by decide)]
    rfl
  · have hl : 0 < (limbs u).length := by unfold limbs; rw [if_neg h0]; split <;> simp
    refine Ev.neg (by omega) ?_
    have hlen := backs_length u 20 (by omega)
    exact Ev.eq (print_loop u hu [] (by simp; omega)) (by rw [List.nil_append]; exact backs_dec u h0)

theorem digits_f (n : Int) (h0 : 0 ≤ n) (h1 : n ≤ 9223372036854775807) : ∃ k, thicketref08_digits.f k n = some ⟨(Lib.decDigits n.toNat).toArray⟩ := by
  have : Ev (fun k => thicketref08_digits.f k n) ⟨(Lib.decDigits n.toNat).toArray⟩ := by
    unfold thicketref08_digits.f
    rw [wu64 h0 (by omega)]
    refine Ev.bind (a := limbs n.toNat) (Ev.eq (Ev.congr (fun k => ?_) (from_f n.toNat (by omega))) rfl) ?_
    · rw [Int.toNat_of_nonneg h0]
    · exact Ev.bind (print_f n.toNat (by omega)) (Ev.now _)
  exact this.rounds
theorem neg_f (n : Int) (h0 : n < 0) (h1 : -9223372036854775808 ≤ n) : ∃ k, thicketref01_From.f k (IntKind.u64.wrap (-(IntKind.u64.wrap n))) = some (limbs n.natAbs) ∧ thicketref01_Print.f k (limbs n.natAbs) = some ⟨(Lib.decDigits n.natAbs).toArray⟩ := by
  have e : IntKind.u64.wrap (-(IntKind.u64.wrap n)) = ((n.natAbs : Nat) : Int) := by rw [IntKind.wrap_u64, IntKind.wrap_u64]; omega
  rw [e]
  obtain ⟨a, ha⟩ := from_f n.natAbs (by omega)
  obtain ⟨b, hb⟩ := print_f n.natAbs (by omega)
  exact ⟨max a b, ha _ (Nat.le_max_left _ _), hb _ (Nat.le_max_right _ _)⟩
end Go.Proofs.YthcnjpgmgehnkaaDoor
