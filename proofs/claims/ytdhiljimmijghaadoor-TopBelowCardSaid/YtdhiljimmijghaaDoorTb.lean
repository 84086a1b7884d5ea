/-
  order.Below over rising keys; the keys of 2, 1, 2: plain.
-/
import Derived.Test.YtdhiljimmijghaaDoorMk
import Derived.Test.YtdhiljimmijghaaDoorDi
namespace Go.Proofs.YtdhiljimmijghaaDoor.FAll
open Go.RowKit Go.Proofs.YtdhiljimmijghaaDoorW.PrintWords Go.Proofs.YtdhiljimmijghaaDoorW.PrintLast Go.Proofs.YtdhiljimmijghaaDoorW.PrintMore
set_option linter.unusedVariables false
set_option linter.unusedSimpArgs false
theorem key_f (b : Nat) (hb : b < 2 ^ 64) : order_Key.f b = some (fkey b) := by
  have h1 : feq b b = !isNaN b := (f_eql b b hb hb).trans (fEq_self b)
  unfold order_Key.f f64bits
  rw [h1]
  by_cases hn : isNaN b = true
  · rw [hn, fkey_nan hn]
    simp
  · have hn : isNaN b = false := by simpa using hn
    have hm := nan_bounds hn
    rw [hn, if_pos (show (!false) = true from rfl)]
    by_cases hs : b < 9223372036854775808
    · rw [if_pos (by omega), fkey_pos hn hs, IntKind.wrap_u64]
      exact congrArg some (by omega)
    · rw [if_neg (by omega), fkey_neg hn (by omega), bits_andNot_sgn b (by omega), IntKind.wrap_u64]
      exact congrArg some (by omega)
/-- How many keys lie below y. -/
def cntB (y : Int) : List Int → Nat
  | [] => 0
  | x :: r => (if x < y then 1 else 0) + cntB y r
theorem cntB_le (y : Int) : ∀ ks, cntB y ks ≤ ks.length
  | [] => Nat.le_refl _
  | x :: r => by
    have := cntB_le y r
    unfold cntB
    rw [List.length_cons]
    split <;> omega
theorem cntB_none (y : Int) : ∀ ks : List Int, (∀ x ∈ ks, ¬ x < y) → cntB y ks = 0
  | [], _ => rfl
  | x :: r, h => by
    unfold cntB
    rw [if_neg (h x (List.mem_cons_self ..)), cntB_none y r (fun z hz => h z (List.mem_cons_of_mem _ hz))]
theorem cntB_rising (y : Int) : ∀ ks : List Int, ks.Pairwise (· < ·) → ∀ i (h : i < ks.length), ks[i] < y ↔ i < cntB y ks
  | [], _, i, h => absurd h (Nat.not_lt_zero _)
  | x :: r, hr, i, h => by
    obtain ⟨h1, h2⟩ := List.pairwise_cons.1 hr
    unfold cntB
    by_cases hx : x < y
    · rw [if_pos hx]
      cases i with
      | zero => exact ⟨fun _ => by omega, fun _ => hx⟩
      | succ i =>
        have := cntB_rising y r h2 i (by simpa using h)
        rw [List.getElem_cons_succ, this]
        omega
    · rw [if_neg hx, cntB_none y r (fun z hz => by have := h1 z hz; omega)]
      cases i with
      | zero => exact ⟨fun h => absurd h hx, fun h => absurd h (by omega)⟩
      | succ i =>
        rw [List.getElem_cons_succ]
        have := h1 _ (List.getElem_mem (show i < r.length by simpa using h))
        exact ⟨fun h => by omega, fun h => by omega⟩
theorem wrap_succ (i : Nat) (h : i ≤ 35184372088832) : wrap64 ((i : Int) + 1) = ((i + 1 : Nat) : Int) := by unfold wrap64; omega
theorem key_at (x : Int) (h0 : 0 ≤ x) (h1 : x ≤ 18437736874454810625) : order_Key.f (atBits x) = some x := by
  rw [key_f _ (atBits_lt _ h0 h1), fkey_at _ h0 h1]
theorem rd_map (ks : List Int) (i : Nat) (hlt : i < ks.length) : rdOf (0 : Nat) (ks.map atBits) (i : Int) = atBits ks[i] := by
  unfold rdOf
  rw [Int.toNat_natCast, List.getD_eq_getElem?_getD, List.getElem?_map, List.getElem?_eq_getElem hlt]
  rfl
theorem blw_step (v : Nat) (kv : Int) (hkv : order_Key.f v = some kv) (ks : List Int) (i k n : Nat) (hlt : i < ks.length) (y : Int) (hy : y = ks[i]) (hx : order_Key.f (atBits y) = some y) (hl : ks.length ≤ 35184372088832) (hn : n ≤ i) :
    order_Below.l0 (k + 1) v (n : Int) (ks.map atBits) (ks.length : Int) (i : Int) = order_Below.l0 k v ((if y < kv then n + 1 else n : Nat) : Int) (ks.map atBits) (ks.length : Int) ((i + 1 : Nat) : Int) := by
  have c1 : (i : Int) < (ks.length : Int) := by omega
  have c2 : (0 : Int) ≤ (i : Int) := by omega
  have c3 : (i : Int) < ((ks.map atBits).length : Int) := by rw [List.length_map]; exact c1
  rw [order_Below.l0, if_pos c1, if_pos c2, if_pos c3, rd_map ks i hlt, ← hy, hx, Option.bind_some, hkv, Option.bind_some, wrap_succ i (by omega), wrap_succ n (by omega)]
  by_cases hc : y < kv
  · rw [if_pos hc, if_pos hc]
  · rw [if_neg hc, if_neg hc]
theorem blw_loop (v : Nat) (kv : Int) (hkv : order_Key.f v = some kv) (ks : List Int) (hk : ∀ x ∈ ks, order_Key.f (atBits x) = some x) (hl : ks.length ≤ 35184372088832) : ∀ (r i k n : Nat), i + r = ks.length → n ≤ i → r < k →
    order_Below.l0 k v (n : Int) (ks.map atBits) (ks.length : Int) (i : Int) = some (((n + cntB kv (ks.drop i) : Nat)) : Int)
  | 0, i, k, n, hi, hn, hk2 => by
    obtain ⟨k, rfl⟩ : ∃ k', k = k' + 1 := ⟨k - 1, by omega⟩
    rw [order_Below.l0, if_neg (by omega), List.drop_eq_nil_of_le (by omega)]
    rfl
  | r + 1, i, k, n, hi, hn, hk2 => by
    obtain ⟨k, rfl⟩ : ∃ k', k = k' + 1 := ⟨k - 1, by omega⟩
    have hlt : i < ks.length := by omega
    have hr : r < k := by omega
    have hi2 : i + 1 + r = ks.length := by omega
    rw [blw_step v kv hkv ks i k n hlt ks[i] rfl (hk _ (List.getElem_mem hlt)) hl hn]
    have e := blw_loop v kv hkv ks hk hl r (i + 1) k (if ks[i] < kv then n + 1 else n) hi2 (by split <;> omega) hr
    rw [e, List.drop_eq_getElem_cons hlt]
    show some _ = some (((n + ((if ks[i] < kv then 1 else 0) + cntB kv (ks.drop (i + 1))) : Nat)) : Int)
    congr 2
    split <;> omega
theorem blw_all (v : Nat) (hv : v < 2 ^ 64) (ks : List Int) (hk : ∀ x ∈ ks, 0 ≤ x ∧ x ≤ 18437736874454810625) (hl : ks.length ≤ 35184372088832) : order_Below.f (ks.length + 1) (ks.map atBits) v = some ((cntB (fkey v) ks : Nat) : Int) := by
  unfold order_Below.f
  rw [List.length_map]
  have h := blw_loop v _ (key_f v hv) ks (fun x hx => key_at x (hk x hx).1 (hk x hx).2) hl ks.length 0 (ks.length + 1) 0 (Nat.zero_add _) (Nat.le_refl _) (Nat.lt_succ_self _)
  rw [Nat.zero_add, List.drop_zero] at h
  exact h
theorem distinct_bounds {l : List Nat} {ks : List Int} (h : DistinctOf l ks) (hl : ∀ b ∈ l, b < 2 ^ 64) : ∀ x ∈ ks, 0 ≤ x ∧ x ≤ 18437736874454810624 := by
  intro x hx
  obtain ⟨b, hb, h1, h2⟩ := (h.mem x).1 hx
  rw [← h2]
  exact ⟨(fkey_bounds (hl b hb)).1, fkey_le (hl b hb) h1⟩
def oneL : List Nat := [4611686018427387904, 4607182418800017408, 4611686018427387904]
theorem one_keys {ks : List Int} (h : DistinctOf oneL ks) : ks = [13826050856027422720, 13830554455654793216] := by
  have k1 : fkey 4607182418800017408 = 13826050856027422720 := by decide +kernel
  have k2 : fkey 4611686018427387904 = 13830554455654793216 := by decide +kernel
  have n1 : isNaN 4607182418800017408 = false := by decide +kernel
  have n2 : isNaN 4611686018427387904 = false := by decide +kernel
  have hm : ∀ x, x ∈ ks ↔ x = 13826050856027422720 ∨ x = 13830554455654793216 := by
    intro x
    rw [h.mem x]
    unfold oneL
    constructor
    · rintro ⟨b, hb, _, h2⟩
      simp only [List.mem_cons, List.not_mem_nil, or_false] at hb
      rcases hb with rfl | rfl | rfl
      · exact .inr (h2.symm.trans k2)
      · exact .inl (h2.symm.trans k1)
      · exact .inr (h2.symm.trans k2)
    · rintro (rfl | rfl)
      · exact ⟨_, by simp, n1, k1⟩
      · exact ⟨_, by simp, n2, k2⟩
  have hr := h.rises
  have m1 := (hm 13826050856027422720).2 (.inl rfl)
  have m2 := (hm 13830554455654793216).2 (.inr rfl)
  match ks, hr, hm, m1, m2 with
  | [], _, _, m1, _ => cases m1
  | [a], _, _, m1, m2 =>
    have e1 := List.mem_singleton.1 m1
    have e2 := List.mem_singleton.1 m2
    omega
  | [a, b], hr, hm, _, _ =>
    have ha := (hm a).1 (by simp)
    have hb := (hm b).1 (by simp)
    have hab : a < b := (List.pairwise_cons.1 hr).1 b (by simp)
    have e1 : a = 13826050856027422720 := by omega
    have e2 : b = 13830554455654793216 := by omega
    rw [e1, e2]
  | a :: b :: c :: r, hr, hm, _, _ =>
    have ha := (hm a).1 (by simp)
    have hb := (hm b).1 (by simp)
    have hc := (hm c).1 (by simp)
    obtain ⟨h1, h2⟩ := List.pairwise_cons.1 hr
    have hab := h1 b (by simp)
    have hbc := (List.pairwise_cons.1 h2).1 c (by simp)
    omega
theorem one_below : order_Below.f 3 [4607182418800017408, 4611686018427387904] 4611686018427387904 = some 1 := by
  have h := blw_all 4611686018427387904 (by decide) [13826050856027422720, 13830554455654793216] (by simp) (by simp)
  have e1 : [13826050856027422720, 13830554455654793216].map atBits = [4607182418800017408, 4611686018427387904] := by decide +kernel
  have e2 : cntB (fkey 4611686018427387904) [13826050856027422720, 13830554455654793216] = 1 := by decide +kernel
  rw [e1, e2] at h
  exact h
/-- A block of numbers as a list. -/
theorem C_block {w : World} {g : Nat} {xs : List Nat} (h : w.heap[g]? = some (.cells (xs.map (Value.float .f64)).toArray 23 (0, 0))) (hx : xs.length ≤ maxLen) : Kd.C Kd.f64 w (some ⟨g, 0, none⟩) xs.length xs :=
  (Kd.R_reads' (Kd.R_of_own (enc := Value.float .f64) (h1 := fun _ => rfl) (base := 0) (ok := fun _ => True) (v := .slice (some ⟨g, 0, none⟩) xs.length xs.length) ⟨by simp [encs], .inr ⟨g, xs.length, _, rfl, Nat.zero_le _, h, Nat.le_refl _, hx, by simp, by simp [encs]; exact List.take_of_length_le (by simp)⟩⟩ (fun _ _ => trivial))).2.2
theorem tabAt_below {g : Nat} {tb : List Nat} {w w' : World} (h : TabAt g tb w) (hb : Below w.heap.size w w') : TabAt g tb w' := fun j hj => (hb.cell (World.block_lt_of_cell? w _ (h j hj))).trans (h j hj)
end Go.Proofs.YtdhiljimmijghaaDoor.FAll
