/-
  bits.Mask of n bits from 0 to m, its Count, Has, Lowest: plain.
-/
import Derived.Test.YtdhiljimmijghaaDoorMw
namespace Go.Proofs.YtdhiljimmijghaaDoor.FAll
open Go.RowKit Go.Proofs.YtdhiljimmijghaaDoorW.PrintWords Go.Proofs.YtdhiljimmijghaaDoorW.PrintLast Go.Proofs.YtdhiljimmijghaaDoorW.PrintMore
set_option linter.unusedVariables false
set_option linter.unusedSimpArgs false
def tab (W : Nat) (f : Nat → Int) : List Int := (List.range W).map f
theorem tab_length (W : Nat) (f : Nat → Int) : (tab W f).length = W := by simp [tab]
theorem tab_get {W i : Nat} (f : Nat → Int) (h : i < W) : (tab W f)[i]? = some (f i) := by simp [tab, h]
theorem tab_rd {W i : Nat} (f : Nat → Int) (h : i < W) : rd (tab W f) (i : Int) = f i := by
  unfold rd
  rw [Int.toNat_natCast, List.getD_eq_getElem?_getD, tab_get f h]
  rfl
theorem tab_congr {W : Nat} {f g : Nat → Int} (h : ∀ j, j < W → f j = g j) : tab W f = tab W g := by
  unfold tab
  exact List.map_congr_left (fun j hj => h j (List.mem_range.1 hj))
theorem tab_set {W i : Nat} (f : Nat → Int) (v : Int) (h : i < W) : (tab W f).set i v = tab W (fun j => if j = i then v else f j) := by
  apply List.ext_getElem?
  intro j
  rw [List.getElem?_set]
  by_cases hj : j < W
  · by_cases e : i = j
    · subst e
      rw [if_pos rfl, tab_length, if_pos h, tab_get _ h, if_pos rfl]
    · rw [if_neg e, tab_get _ hj, tab_get _ hj, if_neg (fun h => e h.symm)]
  · have h1 : (tab W f)[j]? = none := List.getElem?_eq_none (by rw [tab_length]; omega)
    have h2 : (tab W fun j => if j = i then v else f j)[j]? = none := List.getElem?_eq_none (by rw [tab_length]; omega)
    rw [if_neg (by omega), h1, h2]
theorem tab_zero (W : Nat) : List.replicate W (0 : Int) = tab W (fun _ => 0) := by
  apply List.ext_getElem?
  intro j
  by_cases hj : j < W
  · rw [tab_get _ hj, List.getElem?_replicate, if_pos hj]
  · rw [List.getElem?_eq_none (by simp; omega), List.getElem?_eq_none (by rw [tab_length]; omega)]
/-- How many bits of word j lie below t. -/
def part (t j : Nat) : Nat := min (t - 64 * j) 64
theorem part_le (t j : Nat) : part t j ≤ 64 := Nat.min_le_right _ _
theorem part_mono {m n : Nat} (h : m ≤ n) (j : Nat) : part m j ≤ part n j := by unfold part; omega
theorem has_word (H M j : Nat) (hM : M ≤ H) (hH : H ≤ 64) (hj : j < H) : ((Go.bits .and .u64 (shr .u64 (2 ^ H - 2 ^ M) (j : Int)) 1) == 1) = decide (M ≤ j) := by
  have h1 : (2 : Nat) ^ M ≤ 2 ^ H := Nat.pow_le_pow_right (by decide) hM
  have h2 : (2 : Nat) ^ H ≤ 2 ^ 64 := Nat.pow_le_pow_right (by decide) hH
  have h3 : 0 < (2 : Nat) ^ M := Nat.pow_pos (by decide)
  have e1 : ((2 : Int) ^ H - 2 ^ M) = ((2 ^ H - 2 ^ M : Nat) : Int) := by
    rw [Int.natCast_sub h1, Int.natCast_pow, Int.natCast_pow]
    rfl
  have e2 : shr .u64 ((2 : Int) ^ H - 2 ^ M) (j : Int) = (((2 ^ H - 2 ^ M) / 2 ^ j : Nat) : Int) := by
    unfold shr
    rw [e1, Int.toNat_natCast, show IntKind.u64.bits = 64 from rfl, Nat.min_eq_left (by omega), Int.natCast_ediv, Int.natCast_pow]
    rfl
  have h4 : (2 ^ H - 2 ^ M) / 2 ^ j < 18446744073709551616 := Nat.lt_of_le_of_lt (Nat.div_le_self _ _) (by omega)
  have e3 := bits_and_u64_nat ((2 ^ H - 2 ^ M) / 2 ^ j) 1 h4 (by decide)
  have e4 := Nat.testBit_two_pow_sub_succ (x := 2 ^ M - 1) (n := H) (by omega) j
  rw [Nat.testBit_two_pow_sub_one, show 2 ^ M - 1 + 1 = 2 ^ M by omega, Nat.testBit_eq_decide_div_mod_eq] at e4
  rw [e2, show (1 : Int) = ((1 : Nat) : Int) from rfl, e3, Nat.and_one_is_mod]
  have e5 : ((((2 ^ H - 2 ^ M) / 2 ^ j % 2 : Nat) : Int) == ((1 : Nat) : Int)) = decide ((2 ^ H - 2 ^ M) / 2 ^ j % 2 = 1) := by
    rw [Bool.eq_iff_iff, beq_iff_eq, decide_eq_true_iff]
    omega
  rw [e5, e4]
  by_cases h : M ≤ j
  · have h' : ¬ j < M := by omega
    simp [hj, h, h']
  · have h' : j < M := by omega
    simp [hj, h, h']
def ones (t j : Nat) : Int := 2 ^ part t j - 1
theorem room_word (p : Nat) (h : p ≤ 64) : 0 ≤ wrap64 (64 - wrap64 ((p : Int) - 0)) := by
  have e1 : wrap64 ((p : Int) - 0) = p := by unfold wrap64; omega
  have e2 : wrap64 (64 - (p : Int)) = 64 - p := by unfold wrap64; omega
  rw [e1, e2]
  omega
theorem low_neg (t i : Nat) (ht : t ≤ 1048576) (hi : i ≤ 16384) : mx (wrap64 (0 - 64 * (i : Int))) 0 = 0 := by
  have e1 : wrap64 (0 - 64 * (i : Int)) = -(64 * (i : Int)) := by unfold wrap64; omega
  rw [e1]
  unfold mx
  split <;> omega
theorem hi_pos (t i : Nat) (ht : t ≤ 1048576) (hi : i ≤ 16384) : mn (wrap64 ((t : Int) - 64 * (i : Int))) 64 = if 64 * i < t then (part t i : Int) else (t : Int) - 64 * i := by
  have e1 : wrap64 ((t : Int) - 64 * (i : Int)) = (t : Int) - 64 * i := by unfold wrap64; omega
  rw [e1]
  unfold mn part
  split <;> split <;> omega
theorem fill_step (W t i k : Nat) (f : Nat → Int) (hW : W ≤ 16384) (ht : t ≤ 1048576) (c3 : i < W) (hf : f i = 0) : bits_fill.l0 (k + 1) (tab W f) 0 t W i = bits_fill.l0 k (tab W (fun j => if j = i then ones t i else f j)) 0 t W ((i + 1 : Nat) : Int) := by
  have e1 : wrap64 (64 * (i : Int)) = 64 * i := by unfold wrap64; omega
  have e2 := low_neg t i ht (by omega)
  have e4 : wrap64 ((i : Int) + 1) = ((i + 1 : Nat) : Int) := by unfold wrap64; omega
  have c1 : (i : Int) < (W : Int) := by omega
  have c2 : (0 : Int) ≤ (i : Int) := by omega
  have c4 : (i : Int) < ((tab W f).length : Int) := by rw [tab_length]; exact c1
  have pl := part_le t i
  have c5 := room_word (part t i) pl
  rw [bits_fill.l0]
  rw [if_pos c1, e1, e2, e4]
  by_cases h : 64 * i < t
  · have e3 : mn (wrap64 ((t : Int) - 64 * (i : Int))) 64 = (part t i : Int) := (hi_pos t i ht (by omega)).trans (if_pos h)
    have hp : 0 < part t i := by unfold part; omega
    have hp2 : (0 : Int) < (part t i : Int) := by omega
    rw [e3, if_pos hp2, if_pos c2, if_pos c4, if_pos c5, tab_rd f c3, hf, one_word (part t i) (by omega) hp, Int.toNat_natCast, tab_set _ _ c3]
    rfl
  · have e3 : ¬ (0 < mn (wrap64 ((t : Int) - 64 * (i : Int))) 64) := by rw [hi_pos t i ht (by omega), if_neg h]; omega
    rw [if_neg e3]
    have hp : part t i = 0 := by unfold part; omega
    have e5 : tab W f = tab W (fun j => if j = i then ones t i else f j) := tab_congr fun j hj => by
      by_cases h3 : j = i
      · subst h3
        rw [if_pos rfl, hf]
        unfold ones
        rw [hp]
        rfl
      · rw [if_neg h3]
    rw [← e5]
theorem fill_loop (W t : Nat) (hW : W ≤ 16384) (ht : t ≤ 1048576) : ∀ (r i : Nat) (f : Nat → Int) (k : Nat), i + r = W → (∀ j, i ≤ j → f j = 0) → r < k → bits_fill.l0 k (tab W f) 0 t W i = some (tab W fun j => if i ≤ j then ones t j else f j)
  | 0, i, f, k, hi, hf, hk => by
    obtain ⟨k, rfl⟩ : ∃ k', k = k' + 1 := ⟨k - 1, by omega⟩
    rw [bits_fill.l0]
    rw [if_neg (by omega)]
    exact congrArg some (tab_congr fun j hj => by rw [if_neg (by omega)])
  | r + 1, i, f, k, hi, hf, hk => by
    obtain ⟨k, rfl⟩ : ∃ k', k = k' + 1 := ⟨k - 1, by omega⟩
    rw [fill_step W t i k f hW ht (by omega) (hf i (Nat.le_refl _)), fill_loop W t hW ht r (i + 1) _ k (by omega) (fun j hj => by rw [if_neg (by omega)]; exact hf j (by omega)) (by omega)]
    refine congrArg some (tab_congr fun j hj => ?_)
    by_cases h2 : i + 1 ≤ j
    · rw [if_pos h2, if_pos (by omega)]
    · rw [if_neg h2]
      by_cases h3 : j = i
      · rw [if_pos h3, if_pos (by omega), h3]
      · rw [if_neg h3, if_neg (by omega)]
theorem fill_all (W t k : Nat) (hW : W ≤ 16384) (ht : t ≤ 1048576) (hk : W < k) : bits_fill.f k (List.replicate W 0) 0 t = some (tab W (ones t)) := by
  unfold bits_fill.f
  rw [tab_zero, tab_length]
  have h := fill_loop W t hW ht W 0 (fun _ => 0) k (by omega) (fun _ _ => rfl) hk
  rw [show ((0 : Nat) : Int) = 0 from rfl] at h
  rw [h]
  exact congrArg some (tab_congr fun j hj => by rw [if_pos (Nat.zero_le _)])
/-- The word j of the mask. -/
def mword (n m j : Nat) : Int := 2 ^ part n j - 2 ^ part m j
set_option maxHeartbeats 4000000 in
theorem mask_loop (W n m : Nat) (hW : W ≤ 16384) (hm : m ≤ n) : ∀ (r i : Nat) (f : Nat → Int) (k : Nat), i + r = W → (∀ j, i ≤ j → f j = ones n j) → r < k → bits_Mask.l0 k (tab W f) (tab W (ones m)) W i = some (tab W fun j => if i ≤ j then mword n m j else f j, 0)
  | 0, i, f, k, hi, hf, hk => by
    obtain ⟨k, rfl⟩ : ∃ k', k = k' + 1 := ⟨k - 1, by omega⟩
    unfold bits_Mask.l0
    rw [if_neg (by omega)]
    exact congrArg some (congrArg (·, (0 : Int)) (tab_congr fun j hj => by rw [if_neg (by omega)]))
  | r + 1, i, f, k, hi, hf, hk => by
    obtain ⟨k, rfl⟩ : ∃ k', k = k' + 1 := ⟨k - 1, by omega⟩
    have e4 : wrap64 ((i : Int) + 1) = ((i + 1 : Nat) : Int) := by unfold wrap64; omega
    unfold bits_Mask.l0
    have h1 := andNot_word (part n i) (by have := part_le n i; omega) (part m i) (by have := part_le m i; omega) (part_mono hm i)
    rw [if_pos (by omega), if_pos (by omega), if_pos (by rw [tab_length]; omega), if_pos (by rw [tab_length]; omega), e4, tab_rd f (by omega), tab_rd _ (by omega), hf i (Nat.le_refl _)]
    rw [show Go.bits .andNot .u64 (ones n i) (ones m i) = mword n m i from h1, Int.toNat_natCast, tab_set _ _ (by omega)]
    rw [mask_loop W n m hW hm r (i + 1) _ k (by omega) (fun j hj => by rw [if_neg (by omega)]; exact hf j (by omega)) (by omega)]
    refine congrArg some (congrArg (·, (0 : Int)) (tab_congr fun j hj => ?_))
    by_cases h2 : i + 1 ≤ j
    · rw [if_pos h2, if_pos (by omega)]
    · rw [if_neg h2]
      by_cases h3 : j = i
      · subst h3
        rw [if_pos rfl, if_pos (Nat.le_refl _)]
      · rw [if_neg h3, if_neg (by omega)]
def maskL (n m : Nat) : List Int := tab ((n + 63) / 64) (mword n m)
theorem maskL_length (n m : Nat) : (maskL n m).length = (n + 63) / 64 := tab_length _ _
theorem mask_all (n m k : Nat) (hn : n ≤ 1048576) (hm : m ≤ n) (hk : (n + 63) / 64 + 1 < k) : bits_Mask.f k n 0 m = some (maskL n m, 0) := by
  obtain ⟨k, rfl⟩ : ∃ k', k = k' + 1 := ⟨k - 1, by omega⟩
  have hW : (n + 63) / 64 ≤ 16384 := by omega
  have e0 : bits_Words.f n = some ((((n + 63) / 64 : Nat) : Int), 0) := by
    unfold bits_Words.f
    have e1 : wrap64 ((n : Int) + 63) = ((n + 63 : Nat) : Int) := by unfold wrap64; omega
    have e2 : Int.tdiv ((n + 63 : Nat) : Int) 64 = (((n + 63) / 64 : Nat) : Int) := rfl
    rw [if_neg (by omega), if_neg (by omega), e1, e2]
    congr 2
    unfold wrap64
    omega
  have e1 : bits_Empty.f n = some (List.replicate ((n + 63) / 64) 0, 0) := by
    unfold bits_Empty.f
    rw [e0, Option.bind_some]
    dsimp only
    rw [if_pos rfl, if_pos (by omega), Int.toNat_natCast, if_pos (by omega)]
  have e2 : bits_Full.f (k + 1) n = some (tab ((n + 63) / 64) (ones n), 0) := by
    unfold bits_Full.f
    rw [e1, Option.bind_some]
    dsimp only
    rw [fill_all _ n _ hW hn (by omega), Option.bind_some]
  unfold bits_Mask.f
  rw [e2, Option.bind_some]
  dsimp only
  rw [if_pos rfl, if_neg (by omega), if_neg (by omega)]
  unfold bits_Mask.j0
  dsimp only
  rw [if_neg (by simp; omega), tab_length, if_pos (by omega), Int.toNat_natCast, if_pos (by omega), fill_all _ m _ hW (by omega) (by omega), Option.bind_some]
  have h := mask_loop ((n + 63) / 64) n m hW hm ((n + 63) / 64) 0 (ones n) k (by omega) (fun _ _ => rfl) (by omega)
  rw [show ((0 : Nat) : Int) = 0 from rfl] at h
  rw [h]
  exact congrArg some (congrArg (·, (0 : Int)) (tab_congr fun j hj => by rw [if_pos (Nat.zero_le _)]))
theorem count_loop (W n m : Nat) (hW : W ≤ 16384) (hm : m ≤ n) (hn : n ≤ 64 * W) : ∀ (r i : Nat) (k : Nat) (s : Int), i + r = W → s = ((min n (64 * i) : Nat) : Int) - ((min m (64 * i) : Nat) : Int) → r < k → bits_Count.l0 k s (tab W (mword n m)) W i = some ((n : Int) - m)
  | 0, i, k, s, hi, hs, hk => by
    obtain ⟨k, rfl⟩ : ∃ k', k = k' + 1 := ⟨k - 1, by omega⟩
    unfold bits_Count.l0
    rw [if_neg (by omega), hs]
    congr 1
    omega
  | r + 1, i, k, s, hi, hs, hk => by
    obtain ⟨k, rfl⟩ : ∃ k', k = k' + 1 := ⟨k - 1, by omega⟩
    have e4 : wrap64 ((i : Int) + 1) = ((i + 1 : Nat) : Int) := by unfold wrap64; omega
    unfold bits_Count.l0
    have h1 := count_word (part n i) (by have := part_le n i; omega) (part m i) (by have := part_le m i; omega) (part_mono hm i)
    rw [if_pos (by omega), if_pos (by omega), if_pos (by rw [tab_length]; omega), tab_rd _ (by omega), show bits_OnesCount64.f (mword n m i) = _ from h1, Option.bind_some, e4]
    refine count_loop W n m hW hm hn r (i + 1) k _ (by omega) ?_ (by omega)
    rw [hs]
    unfold part wrap64
    omega
theorem count_all (n m k : Nat) (hn : n ≤ 1048576) (hm : m ≤ n) (hk : (n + 63) / 64 < k) : bits_Count.f k (maskL n m) = some ((n : Int) - m) := by
  unfold bits_Count.f
  rw [maskL_length]
  exact count_loop _ n m (by omega) hm (by omega) _ 0 k 0 (by omega) (by omega) hk
theorem has_all (n m i : Nat) (hn : n ≤ 1048576) (hm : m ≤ n) (hi : i < n) : bits_Has.f (maskL n m) i = some (decide (m ≤ i)) := by
  have e1 : wrap64 (Int.tdiv (i : Int) 64) = ((i / 64 : Nat) : Int) := by
    rw [show Int.tdiv (i : Int) 64 = ((i / 64 : Nat) : Int) from rfl]
    unfold wrap64
    omega
  have e2 : Int.tmod (i : Int) 64 = ((i % 64 : Nat) : Int) := rfl
  have h1 := has_word (part n (i / 64)) (part m (i / 64)) (i % 64) (part_mono hm _) (part_le _ _) (by unfold part; omega)
  have e3 : bits_within.f (maskL n m) i = some true := by
    unfold bits_within.f
    rw [if_pos (by omega), e1, maskL_length]
    congr 1
    simp
    omega
  unfold bits_Has.f
  rw [e3, Option.bind_some, if_pos rfl, e1, e2, if_pos (by omega), maskL_length, if_pos (by omega), if_pos (by omega)]
  unfold maskL
  rw [tab_rd _ (by omega)]
  refine congrArg some (h1.trans ?_)
  rw [decide_eq_decide]
  show part m (i / 64) ≤ i % 64 ↔ m ≤ i
  unfold part
  omega
theorem word_zero {n m j : Nat} (h : part n j = part m j) : mword n m j = 0 := by unfold mword; rw [h]; omega
theorem word_pos {n m j : Nat} (h : part m j < part n j) : 0 < mword n m j := by
  unfold mword
  have : (2 : Nat) ^ part m j < 2 ^ part n j := (Nat.pow_lt_pow_iff_right (by decide)).2 h
  have h2 : ((2 ^ part m j : Nat) : Int) < ((2 ^ part n j : Nat) : Int) := by omega
  rw [Int.natCast_pow, Int.natCast_pow] at h2
  exact Int.sub_pos_of_lt h2
theorem word_lt (n m j : Nat) (hm : m ≤ n) : 0 ≤ mword n m j ∧ mword n m j < 18446744073709551616 := by
  have h1 : (2 : Nat) ^ part m j ≤ 2 ^ part n j := Nat.pow_le_pow_right (by decide) (part_mono hm j)
  have h2 : (2 : Nat) ^ part n j ≤ 2 ^ 64 := Nat.pow_le_pow_right (by decide) (part_le n j)
  have h3 : 0 < (2 : Nat) ^ part m j := Nat.pow_pos (by decide)
  have e1 : mword n m j = ((2 ^ part n j : Nat) : Int) - ((2 ^ part m j : Nat) : Int) := by unfold mword; rw [Int.natCast_pow, Int.natCast_pow]; rfl
  rw [e1]
  omega
theorem low_loop (W n m : Nat) (hm : m ≤ n) (hW : n ≤ 64 * W) : ∀ (r i : Nat), i + r = W → (64 * i ≤ m ∨ n ≤ 64 * i) → lowV ((tab W (mword n m)).drop i) i = if m < n ∧ 64 * i ≤ m then (m : Int) else -1
  | 0, i, hi, h => by
    rw [List.drop_eq_nil_of_le (by rw [tab_length]; omega), if_neg (by omega)]
    rfl
  | r + 1, i, hi, h => by
    have hlt : i < (tab W (mword n m)).length := by rw [tab_length]; omega
    rw [List.drop_eq_getElem_cons hlt]
    have e : (tab W (mword n m))[i] = mword n m i := by
      have := tab_get (mword n m) (show i < W by omega)
      rw [List.getElem?_eq_getElem hlt] at this
      exact Option.some.inj this
    show (if (tab W (mword n m))[i] = 0 then lowV ((tab W (mword n m)).drop (i + 1)) (i + 1) else 64 * (i : Int) + Lib.ctz 64 ((tab W (mword n m))[i]).toNat) = _
    rw [e]
    by_cases hp : part m i < part n i
    · have h1 := word_pos hp
      have h2 := ctz_word (part n i) (by have := part_le n i; omega) (part m i) (by have := part_le m i; omega) hp
      have h3 : Lib.ctz 64 (mword n m i).toNat = part m i := h2
      rw [if_neg (by omega), h3]
      unfold part at hp ⊢
      rw [if_pos (by omega)]
      omega
    · have h1 : part n i = part m i := Nat.le_antisymm (by omega) (part_mono hm i)
      rw [if_pos (word_zero h1), low_loop W n m hm hW r (i + 1) (by omega) (by unfold part at h1; omega)]
      unfold part at h1
      by_cases h4 : m < n ∧ 64 * i ≤ m
      · rw [if_pos h4, if_pos (by omega)]
      · rw [if_neg h4, if_neg (by omega)]
theorem low_all (n m : Nat) (hm : m ≤ n) : lowV (maskL n m) 0 = if m < n then (m : Int) else -1 := by
  have h := low_loop ((n + 63) / 64) n m hm (by omega) ((n + 63) / 64) 0 (by omega) (by omega)
  rw [List.drop_zero] at h
  unfold maskL
  rw [h]
  by_cases h4 : m < n
  · rw [if_pos h4, if_pos (by omega)]
  · rw [if_neg h4, if_neg (by omega)]
theorem mask_wf (n m : Nat) (hm : m ≤ n) : ∀ x ∈ maskL n m, 0 ≤ x ∧ x < 18446744073709551616 := by
  intro x hx
  unfold maskL tab at hx
  obtain ⟨j, _, rfl⟩ := List.mem_map.1 hx
  exact word_lt n m j hm
end Go.Proofs.YtdhiljimmijghaaDoor.FAll
