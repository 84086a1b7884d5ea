/-
  Plain: so many names, each another one, each a right one.
-/
import Derived.Test.YtpeiafamkajedaaDoorRj
import Derived.Test.YtpeiafamkajedaaDoorRt
import Derived.Test.YtpeiafamkajedaaDoorFAllx5
namespace Go.Proofs.YtpeiafamkajedaaDoor.FAll
open Go.RowKit Go.Proofs.YtpeiafamkajedaaDoorW.PrintWords Go.Proofs.YtpeiafamkajedaaDoorW.PrintLast Go.Proofs.YtpeiafamkajedaaDoorW.PrintMore
set_option linter.unusedVariables false
set_option linter.unusedSimpArgs false
def codes (i : Nat) : List Int := [102, ((97 + i % 20 : Nat) : Int), ((97 + i / 20 % 20 : Nat) : Int), ((97 + i / 20 / 20 % 20 : Nat) : Int), ((97 + i / 20 / 20 / 20 % 20 : Nat) : Int)]
def nameN (i : Nat) : ByteArray := strOfNums (codes i)
def namesL (n : Nat) : List ByteArray := (List.range n).map nameN
theorem namesL_length (n : Nat) : (namesL n).length = n := by unfold namesL; rw [List.length_map, List.length_range]
theorem dig_tm (a : Nat) (ha : a ≤ 200000) : (wrap64 (97 + Int.tmod (a : Int) 20)) % 256 = ((97 + a % 20 : Nat) : Int) := by
  rw [Int.tmod_eq_emod_of_nonneg (by omega)]
  unfold wrap64
  omega
theorem dig_td (a : Nat) (ha : a ≤ 200000) : wrap64 (Int.tdiv (a : Int) 20) = ((a / 20 : Nat) : Int) := by
  rw [Int.tdiv_eq_ediv_of_nonneg (by omega)]
  unfold wrap64
  omega
theorem names_ev (n : Nat) (hn : n ≤ 200000) : ∀ d i : Nat, i + d = n → Ev (fun k => thicketlaw08_names.l0 k (n : Int) (namesL i) (i : Int)) (namesL n) := by
  intro d
  induction d with
  | zero =>
    intro i hi
    obtain rfl : i = n := by omega
    exact Ev.step (f := fun k => _) (fun k => rfl) (evn (by omega) (Ev.now _))
  | succ d ih =>
    intro i hi
    have e1 : wrap64 ((i : Int) + 1) = ((i + 1 : Nat) : Int) := by unfold wrap64; omega
    have hl : (namesL i).length < 8796093022208 := by rw [namesL_length]; omega
    have w1 : wrap64 (1 + 1) = 2 := by unfold wrap64; omega
    have w2 : wrap64 (2 + 1) = 3 := by unfold wrap64; omega
    have w3 : wrap64 (3 + 1) = 4 := by unfold wrap64; omega
    have w4 : wrap64 (4 + 1) = 5 := by unfold wrap64; omega
    have hi1 : i + 1 + d = n := by omega
    have b1 : i ≤ 200000 := by omega
    have b2 : i / 20 ≤ 200000 := Nat.le_trans (Nat.div_le_self _ _) b1
    have b3 : i / 20 / 20 ≤ 200000 := Nat.le_trans (Nat.div_le_self _ _) b2
    have b4 : i / 20 / 20 / 20 ≤ 200000 := Nat.le_trans (Nat.div_le_self _ _) b3
    have t1 := dig_tm i b1
    have t2 := dig_tm (i / 20) b2
    have t3 := dig_tm (i / 20 / 20) b3
    have t4 := dig_tm (i / 20 / 20 / 20) b4
    have d1 := dig_td i b1
    have d2 := dig_td (i / 20) b2
    have d3 := dig_td (i / 20 / 20) b3
    have d4 := dig_td (i / 20 / 20 / 20) b4
    have b0 : i < n := by omega
    have hs : namesL i ++ [nameN i] = namesL (i + 1) := by unfold namesL; rw [List.range_succ, List.map_append]; rfl
    refine Ev.step (f := fun k => _) (fun k => rfl) ?_
    refine evp (Int.ofNat_lt.2 b0) ?_
    clear b0 b1 b2 b3 b4
    refine Ev.step (f := fun k => _) (fun k => rfl) ?_
    refine evp (by decide) (evp (by decide) (evp (by decide) ?_))
    simp only [w1, t1, d1, show ((1 : Int)).toNat = 1 from rfl, List.set_cons_succ, List.set_cons_zero]
    refine Ev.step (f := fun k => _) (fun k => rfl) ?_
    refine evp (by decide) (evp (by decide) (evp (by simp only [List.length_cons, List.length_nil]; decide) ?_))
    simp only [w2, t2, d2, show ((2 : Int)).toNat = 2 from rfl, List.set_cons_succ, List.set_cons_zero]
    refine Ev.step (f := fun k => _) (fun k => rfl) ?_
    refine evp (by decide) (evp (by decide) (evp (by simp only [List.length_cons, List.length_nil]; decide) ?_))
    simp only [w3, t3, d3, show ((3 : Int)).toNat = 3 from rfl, List.set_cons_succ, List.set_cons_zero]
    refine Ev.step (f := fun k => _) (fun k => rfl) ?_
    refine evp (by decide) (evp (by decide) (evp (by simp only [List.length_cons, List.length_nil]; decide) ?_))
    simp only [w4, t4, d4, show ((4 : Int)).toNat = 4 from rfl, List.set_cons_succ, List.set_cons_zero]
    refine Ev.step (f := fun k => _) (fun k => rfl) ?_
    refine evn (by decide) (evp hl ?_)
    rw [e1]
    have h := ih (i + 1) hi1
    rw [← hs] at h
    exact h
theorem names_total (n : Nat) (hn : n ≤ 200000) : ∃ k, thicketlaw08_names.f k (n : Int) = some (namesL n) := (names_ev n hn n 0 (by omega)).rounds
theorem bt_str (xs : List Int) (j : Nat) (v : Nat) (hj : xs[j]? = some (v : Int)) (hv : v < 256) : bt (strOfNums xs) (j : Int) = (v : Int) := by
  have hl : j < xs.length := (List.getElem?_eq_some_iff.1 hj).1
  have hs : (strOfNums xs).size = xs.length := by simp [strOfNums, ByteArray.size]
  have hg : xs[j] = (v : Int) := (List.getElem?_eq_some_iff.1 hj).2
  unfold bt
  rw [dif_pos (by rw [hs]; omega)]
  have : (strOfNums xs)[(j : Int).toNat]'(by rw [hs]; omega) = UInt8.ofNat v := by
    show ((xs.map fun n => UInt8.ofNat n.toNat).toArray)[(j : Int).toNat]'_ = _
    simp [hg]
  rw [this]
  simp
  omega
theorem name_size (i : Nat) : (nameN i).size = 5 := by simp [nameN, strOfNums, codes, ByteArray.size]
theorem name_b0 (i : Nat) : bt (nameN i) ((0 : Nat) : Int) = ((102 : Nat) : Int) := bt_str _ 0 102 rfl (by omega)
theorem name_b1 (i : Nat) : bt (nameN i) ((1 : Nat) : Int) = ((97 + i % 20 : Nat) : Int) := bt_str _ 1 _ rfl (by have := Nat.mod_lt i (show 0 < 20 by decide); omega)
theorem name_b2 (i : Nat) : bt (nameN i) ((2 : Nat) : Int) = ((97 + i / 20 % 20 : Nat) : Int) := bt_str _ 2 _ rfl (by have := Nat.mod_lt (i / 20) (show 0 < 20 by decide); omega)
theorem name_b3 (i : Nat) : bt (nameN i) ((3 : Nat) : Int) = ((97 + i / 20 / 20 % 20 : Nat) : Int) := bt_str _ 3 _ rfl (by have := Nat.mod_lt (i / 20 / 20) (show 0 < 20 by decide); omega)
theorem name_b4 (i : Nat) : bt (nameN i) ((4 : Nat) : Int) = ((97 + i / 20 / 20 / 20 % 20 : Nat) : Int) := bt_str _ 4 _ rfl (by have := Nat.mod_lt (i / 20 / 20 / 20) (show 0 < 20 by decide); omega)
theorem good_dig : ∀ r : Fin 20, goodC ((97 + r.val : Nat) : Int) = true := by decide +kernel
theorem name_right (i : Nat) : NameB (nameN i) := by
  refine ⟨by rw [name_size]; decide, by rw [name_size]; decide, fun j hj => ?_⟩
  rw [name_size] at hj
  have hm := fun a : Nat => Nat.mod_lt a (show 0 < 20 by decide)
  match j, hj with
  | 0, _ => rw [name_b0]; decide +kernel
  | 1, _ => rw [name_b1]; exact good_dig ⟨_, hm _⟩
  | 2, _ => rw [name_b2]; exact good_dig ⟨_, hm _⟩
  | 3, _ => rw [name_b3]; exact good_dig ⟨_, hm _⟩
  | 4, _ => rw [name_b4]; exact good_dig ⟨_, hm _⟩
theorem digit_eq {a b : Nat} (h1 : a % 20 = b % 20) (h2 : a / 20 = b / 20) : a = b := by
  have := Nat.div_add_mod a 20
  have := Nat.div_add_mod b 20
  omega
theorem name_inj {i k : Nat} (hi : i < 160000) (hk : k < 160000) (h : nameN i = nameN k) : i = k := by
  have c1 : i % 20 = k % 20 := by have h1 := name_b1 i; rw [h, name_b1] at h1; omega
  have c2 : i / 20 % 20 = k / 20 % 20 := by have h1 := name_b2 i; rw [h, name_b2] at h1; omega
  have c3 : i / 20 / 20 % 20 = k / 20 / 20 % 20 := by have h1 := name_b3 i; rw [h, name_b3] at h1; omega
  have c4 : i / 20 / 20 / 20 % 20 = k / 20 / 20 / 20 % 20 := by have h1 := name_b4 i; rw [h, name_b4] at h1; omega
  have small : ∀ a : Nat, a < 160000 → a / 20 / 20 / 20 < 20 := by
    intro a ha
    rw [Nat.div_div_eq_div_mul, Nat.div_div_eq_div_mul]
    exact Nat.div_lt_of_lt_mul (by omega)
  rw [Nat.mod_eq_of_lt (small i hi), Nat.mod_eq_of_lt (small k hk)] at c4
  exact digit_eq c1 (digit_eq c2 (digit_eq c3 c4))
theorem namesL_rd (n i : Nat) (hi : i < n) : rdOf ByteArray.empty (namesL n) (i : Int) = nameN i := by
  unfold rdOf namesL
  rw [Int.toNat_natCast, List.getD_eq_getElem?_getD, List.getElem?_map, List.getElem?_range hi]
  rfl
theorem namesL_take (n m : Nat) (h : m ≤ n) : (namesL n).take m = namesL m := by
  unfold namesL
  rw [← List.map_take, List.take_range, Nat.min_eq_left h]
theorem names_cnt (n i : Nat) (hi : i < n) (hn : n ≤ 160000) : cnt (namesL n) (i + 1) (nameN i) = 1 := by
  unfold cnt
  rw [namesL_take n (i + 1) hi]
  unfold namesL
  rw [List.range_succ, List.map_append, List.countP_append]
  have h0 : ((List.range i).map nameN).countP (fun x => decide (x = nameN i)) = 0 := by
    rw [List.countP_eq_zero]
    intro a ha
    obtain ⟨k, hk, rfl⟩ := List.mem_map.1 ha
    have hk' := List.mem_range.1 hk
    simp only [decide_eq_true_eq]
    intro e
    have := name_inj (by omega) (by omega) e
    omega
  rw [h0]
  simp
theorem names_feat (n : Nat) (hn : n ≤ 160000) : ∀ d i : Nat, i + d = n → featV (namesL n) d i = none := by
  intro d
  induction d with
  | zero => intro i _; rfl
  | succ d ih =>
    intro i hi
    unfold featV
    rw [namesL_rd n i (by omega), names_cnt n i (by omega) hn]
    have h : c2Head (nameN i) 1 = (0, false) := by unfold c2Head; rw [if_pos (name_right i), if_pos rfl]
    rw [h, if_neg (by decide)]
    exact ih (i + 1) (by omega)
end Go.Proofs.YtpeiafamkajedaaDoor.FAll
