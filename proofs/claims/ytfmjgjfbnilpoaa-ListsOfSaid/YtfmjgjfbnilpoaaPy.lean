/-
 A stable sort, plain: who changes places is never as great as whom he passes; merging in place by halves (the symmetric merge).
-/
import Derived.Sort.AssemblyPlain
namespace Go.Proofs.Ytfmjgjfbnilpoaa.FAll
open Go.Sort
set_option linter.unusedVariables false
set_option linter.unusedSimpArgs false
set_option linter.unusedSectionVars false
variable {α : Type} [Inhabited α] {lt : α → α → Bool}

/-- As great as x. -/
def eqv (lt : α → α → Bool) (x y : α) : Bool := !lt x y && !lt y x
/-- Of each greatness the same ones in the same order. -/
def StEq (lt : α → α → Bool) (l l' : List α) : Prop := ∀ x, l'.filter (eqv lt x) = l.filter (eqv lt x)
theorem StEq.refl (l : List α) : StEq lt l l := fun _ => rfl
theorem StEq.trans {l l' l'' : List α} (h : StEq lt l l') (h' : StEq lt l' l'') : StEq lt l l'' := fun x => (h' x).trans (h x)
theorem StEq.app {a a' b b' : List α} (h : StEq lt a a') (h' : StEq lt b b') : StEq lt (a ++ b) (a' ++ b') := fun x => by rw [List.filter_append, List.filter_append, h x, h' x]
theorem eqv_lt (hS : SWO lt) {x y z : α} (h : lt y z = true) : eqv lt x y = false ∨ eqv lt x z = false := by
 unfold eqv
 cases h1 : lt x y <;> cases h2 : lt y x <;> cases h3 : lt x z <;> cases h4 : lt z x <;> simp
 have := hS.ntrans _ _ _ h2 h3
 rw [h] at this
 cases this
theorem filter_nil_of (hS : SWO lt) {x : α} {u : List α} (h : ∀ a ∈ u, eqv lt x a = false) : u.filter (eqv lt x) = [] := by
 rw [List.filter_eq_nil_iff]
 intro a ha hc
 rw [h a ha] at hc
 cases hc
/-- Two blocks change places: all of the one are less than all of the other. -/
theorem StEq.swap (hS : SWO lt) {u v : List α} (h : ∀ a ∈ u, ∀ b ∈ v, lt b a = true) : StEq lt (u ++ v) (v ++ u) := by
 intro x
 rw [List.filter_append, List.filter_append]
 by_cases hu : ∃ a ∈ u, eqv lt x a = true
 ·obtain ⟨a, ha, hxa⟩ := hu
  rw [filter_nil_of hS (u := v) fun b hb => (eqv_lt hS (h a ha b hb)).elim id fun e => absurd hxa (by rw [e]; decide)]
  simp
 ·rw [filter_nil_of hS (u := u) fun a ha => by
   cases e : eqv lt x a
   ·rfl
   ·exact absurd ⟨a, ha, e⟩ hu]
  simp

/-- d' is d, stably turned within a ≤ i < b. -/
structure Stab (lt : α → α → Bool) (a b : Nat) (d d' : Array α) : Prop where
 size : d'.size = d.size
 out : ∀ p, p < a ∨ b ≤ p → d'[p]! = d[p]!
 mem : ∀ p, a ≤ p → p < b → ∃ q, a ≤ q ∧ q < b ∧ d'[p]! = d[q]!
 st : StEq lt d.toList d'.toList
theorem Stab.refl (a b : Nat) (d : Array α) : Stab lt a b d d := ⟨rfl, fun _ _ => rfl, fun p h1 h2 => ⟨p, h1, h2, rfl⟩, StEq.refl _⟩
theorem Stab.trans {a b : Nat} {d d' d'' : Array α} (h : Stab lt a b d d') (h' : Stab lt a b d' d'') : Stab lt a b d d'' :=
 ⟨h'.size.trans h.size, fun p hp => (h'.out p hp).trans (h.out p hp), fun p h1 h2 => by
  obtain ⟨q, q1, q2, e⟩ := h'.mem p h1 h2
  obtain ⟨r, r1, r2, e2⟩ := h.mem q q1 q2
  exact ⟨r, r1, r2, e.trans e2⟩, h.st.trans h'.st⟩
theorem Stab.mono {a b a' b' : Nat} {d d' : Array α} (h : Stab lt a' b' d d') (ha : a ≤ a') (hb : b' ≤ b) : Stab lt a b d d' :=
 ⟨h.size, fun p hp => h.out p (by omega), fun p h1 h2 => by
  by_cases hp : p < a' ∨ b' ≤ p
  ·exact ⟨p, h1, h2, h.out p hp⟩
  ·obtain ⟨q, q1, q2, e⟩ := h.mem p (by omega) (by omega)
   exact ⟨q, by omega, by omega, e⟩, h.st⟩
theorem arr_at (d : Array α) (i : Nat) (hi : i < d.size) : d[i]! = d[i] := by simp [hi]
/-- A row's places from a on, n of them. -/
def seg (d : Array α) (a n : Nat) : List α := (List.range' a n).map fun k => d[k]!
theorem seg_len (d : Array α) (a n : Nat) : (seg d a n).length = n := by simp [seg]
theorem seg_get (d : Array α) (a n k : Nat) (hk : k < n) : (seg d a n)[k]? = some d[a + k]! := by
 unfold seg
 rw [List.getElem?_map, List.getElem?_range' (by simpa using hk)]
 simp
theorem seg_app (d : Array α) (a n m : Nat) : seg d a (n + m) = seg d a n ++ seg d (a + n) m := by
 unfold seg
 rw [← List.map_append, List.range'_append_1]
theorem seg_all (d : Array α) : d.toList = seg d 0 d.size := by
 apply List.ext_getElem?
 intro k
 by_cases hk : k < d.size
 ·rw [seg_get d 0 _ k hk, Array.getElem?_toList, Array.getElem?_eq_getElem hk, Nat.zero_add, arr_at d k hk]
 ·rw [List.getElem?_eq_none (by simpa using hk), List.getElem?_eq_none (by rw [seg_len]; omega)]
theorem seg_eq {d d' : Array α} {a a' n : Nat} (h : ∀ k, k < n → d'[a' + k]! = d[a + k]!) : seg d' a' n = seg d a n := by
 apply List.ext_getElem?
 intro k
 by_cases hk : k < n
 ·rw [seg_get _ _ _ _ hk, seg_get _ _ _ _ hk, h k hk]
 ·rw [List.getElem?_eq_none (by rw [seg_len]; omega), List.getElem?_eq_none (by rw [seg_len]; omega)]
theorem seg_mem {d : Array α} {a n : Nat} {x : α} (h : x ∈ seg d a n) : ∃ k, a ≤ k ∧ k < a + n ∧ x = d[k]! := by
 obtain ⟨k, hk, rfl⟩ := List.mem_map.1 h
 rw [List.mem_range'_1] at hk
 exact ⟨k, hk.1, hk.2, rfl⟩
/-- d' is d with the blocks [a, m) and [m, b) one in the other's place. -/
structure RotR (a m b : Nat) (d d' : Array α) : Prop where
 size : d'.size = d.size
 out : ∀ p, p < a ∨ b ≤ p → d'[p]! = d[p]!
 fst : ∀ t, t < b - m → d'[a + t]! = d[m + t]!
 snd : ∀ t, t < m - a → d'[a + (b - m) + t]! = d[a + t]!
theorem RotR.stab (hS : SWO lt) {a m b : Nat} {d d' : Array α} (h : RotR a m b d d') (ham : a ≤ m) (hmb : m ≤ b) (hb : b ≤ d.size)
  (hlt : ∀ p q, a ≤ p → p < m → m ≤ q → q < b → lt d[q]! d[p]! = true) : Stab lt a b d d' := by
 refine ⟨h.size, h.out, fun p h1 h2 => ?_, ?_⟩
 ·by_cases hp : p < a + (b - m)
  ·exact ⟨m + (p - a), by omega, by omega, by rw [← h.fst (p - a) (by omega), show a + (p - a) = p by omega]⟩
  ·exact ⟨a + (p - a - (b - m)), by omega, by omega, by rw [← h.snd (p - a - (b - m)) (by omega), show a + (b - m) + (p - a - (b - m)) = p by omega]⟩
 ·have e1 : d.toList = seg d 0 a ++ ((seg d a (m - a) ++ seg d m (b - m)) ++ seg d b (d.size - b)) := by
   rw [seg_all, show d.size = a + ((m - a) + (b - m) + (d.size - b)) by omega, seg_app, seg_app, seg_app]
   simp only [Nat.zero_add, show a + (m - a) = m by omega, show a + (m - a + (b - m)) = b by omega, show a + (m - a + (b - m) + (d.size - b)) - b = d.size - b by omega]
  have e2 : d'.toList = seg d 0 a ++ ((seg d m (b - m) ++ seg d a (m - a)) ++ seg d b (d.size - b)) := by
   rw [seg_all, h.size, show d.size = a + ((b - m) + (m - a) + (d.size - b)) by omega, seg_app, seg_app, seg_app]
   simp only [Nat.zero_add, show a + (b - m + (m - a)) = b by omega, show a + (b - m + (m - a) + (d.size - b)) - b = d.size - b by omega]
   rw [seg_eq (d := d) (d' := d') (a := 0) (a' := 0) (n := a) fun k hk => h.out _ (by omega), seg_eq (d := d) (d' := d') (a := m) (a' := a) fun k hk => h.fst k hk, seg_eq (d := d) (d' := d') (a := a) (a' := a + (b - m)) fun k hk => h.snd k hk,
    seg_eq (d := d) (d' := d') (a := b) (a' := b) fun k hk => h.out _ (by omega)]
  rw [e1, e2]
  refine (StEq.refl _).app (StEq.app (StEq.swap hS ?_) (StEq.refl _))
  intro x hx y hy
  obtain ⟨p, p1, p2, rfl⟩ := seg_mem hx
  obtain ⟨q, q1, q2, rfl⟩ := seg_mem hy
  exact hlt p q p1 (by omega) q1 (by omega)
theorem swp_rot (d : Array α) (j : Nat) (hj : j + 1 < d.size) : RotR j (j + 1) (j + 2) d (swp d (j + 1) j) := by
 have g := swp_get d hj (show j < d.size by omega)
 refine ⟨swp_size _ _ _, fun p hp => ?_, fun t ht => ?_, fun t ht => ?_⟩
 ·rw [g, if_neg (by omega), if_neg (by omega)]
 ·obtain rfl : t = 0 := by omega
  rw [g, if_pos (by omega)]
 ·obtain rfl : t = 0 := by omega
  rw [g, if_neg (by omega), if_pos (by omega)]
  rfl
theorem swp_comm (d : Array α) (i j : Nat) (hi : i < d.size) (hj : j < d.size) : swp d i j = swp d j i := by
 apply Array.ext
 ·simp [swp]
 ·intro k h1 h2
  have e1 := swp_get d hi hj k
  have e2 := swp_get d hj hi k
  rw [arr_at _ _ h1] at e1
  rw [arr_at _ _ h2] at e2
  rw [e1, e2]
  split <;> split <;> simp_all

/-- Two neighbours change places: the one behind is the less. -/
theorem swp_stab (hS : SWO lt) (d : Array α) (j : Nat) (hj : j + 1 < d.size) (hl : lt d[j + 1]! d[j]! = true) : Stab lt j (j + 2) d (swp d (j + 1) j) := by
 refine (swp_rot d j hj).stab hS (by omega) (by omega) (by omega) ?_
 intro p q p1 p2 q1 q2
 obtain rfl : p = j := by omega
 obtain rfl : q = p + 1 := by omega
 exact hl

/-! ### Insertion -/
theorem insInner_stab (hS : SWO lt) (a i : Nat) : ∀ (j : Nat) (d : Array α), j ≤ i → i < d.size → Stab lt a (i + 1) d (insInner lt a j d)
 | 0, d, _, _ => Stab.refl _ _ _
 | j + 1, d, hj, hi => by
  rw [insInner]
  split
  ·rename_i h
   rw [Bool.and_eq_true, decide_eq_true_eq] at h
   exact ((swp_stab hS d j (by omega) h.2).mono (by omega) (by omega)).trans (insInner_stab hS a i j _ (by omega) (by rw [swp_size]; exact hi))
  ·exact Stab.refl _ _ _
theorem insOuter_stab (hS : SWO lt) (a b : Nat) : ∀ (n i : Nat) (d : Array α), b - i ≤ n → b ≤ d.size → Stab lt a b d (insOuter lt a b i d)
 | 0, i, d, hn, hb => by
  rw [insOuter, if_neg (by omega)]
  exact Stab.refl _ _ _
 | n + 1, i, d, hn, hb => by
  rw [insOuter]
  split
  ·have h1 := (insInner_stab hS a i i d (Nat.le_refl _) (by omega)).mono (Nat.le_refl a) (show i + 1 ≤ b by omega)
   exact h1.trans (insOuter_stab hS a b n (i + 1) _ (by omega) (by rw [h1.size]; exact hb))
  ·exact Stab.refl _ _ _
theorem insertion_stab (hS : SWO lt) (d : Array α) (a b : Nat) (hb : b ≤ d.size) : Stab lt a b d (insertionSort lt d a b) := insOuter_stab hS a b _ _ d (Nat.le_refl _) hb
theorem insertion_sorted (hS : SWO lt) (d : Array α) (a b : Nat) (hab : a ≤ b) (hb : b ≤ d.size) : SortedIn lt a b (insertionSort lt d a b) := (insertionSort_holds hS d a b hab hb).2

/-! ### Order on a piece -/
theorem sle (hS : SWO lt) {a b : Nat} {d : Array α} (h : SortedIn lt a b d) (p q : Nat) (hp : a ≤ p) (hpq : p ≤ q) (hq : q < b) : lt d[q]! d[p]! = false := by
 by_cases e : p = q
 ·subst e; exact hS.irrefl _
 ·exact h p q hp (by omega) hq
theorem ssub {a b a' b' : Nat} {d : Array α} (h : SortedIn lt a b d) (ha : a ≤ a') (hb : b' ≤ b) : SortedIn lt a' b' d := fun i j h1 h2 h3 => h i j (by omega) h2 (by omega)
theorem scong {a b : Nat} {d d' : Array α} (h : SortedIn lt a b d) (he : ∀ p, a ≤ p → p < b → d'[p]! = d[p]!) : SortedIn lt a b d' := fun i j h1 h2 h3 => by
 rw [he i h1 (by omega), he j (by omega) h3]; exact h i j h1 h2 h3
/-- Two sorted halves, the right one nowhere less. -/
theorem sjoin {a m b : Nat} {d : Array α} (h1 : SortedIn lt a m d) (h2 : SortedIn lt m b d) (h : ∀ p q, a ≤ p → p < m → m ≤ q → q < b → lt d[q]! d[p]! = false) : SortedIn lt a b d := fun i j hi hij hj => by
 by_cases c1 : j < m
 ·exact h1 i j hi hij c1
 ·by_cases c2 : m ≤ i
  ·exact h2 i j c2 hij hj
  ·exact h i j hi (by omega) (by omega) hj
theorem lt_of_le_lt (hS : SWO lt) {x y z : α} (h1 : lt y x = false) (h2 : lt y z = true) : lt x z = true := by
 cases h : lt x z
 ·have := hS.ntrans _ _ _ h1 h
  rw [h2] at this; cases this
 ·rfl
theorem lt_of_lt_le (hS : SWO lt) {x y z : α} (h1 : lt x y = true) (h2 : lt z y = false) : lt x z = true := by
 cases h : lt x z
 ·have := hS.ntrans _ _ _ h h2
  rw [h1] at this; cases this
 ·rfl
theorem Stab.sortedOut {a b a' b' : Nat} {d d' : Array α} (h : Stab lt a b d d') (hs : SortedIn lt a' b' d) (hx : b' ≤ a ∨ b ≤ a') : SortedIn lt a' b' d' :=
 scong hs fun p h1 h2 => h.out p (by omega)

/-! ### Two blocks exchanged; the rotation by exchanges -/
structure SwapR (a b n : Nat) (d d' : Array α) : Prop where
 size : d'.size = d.size
 out : ∀ p, p < a ∨ (a + n ≤ p ∧ p < b) ∨ b + n ≤ p → d'[p]! = d[p]!
 fst : ∀ t, t < n → d'[a + t]! = d[b + t]!
 snd : ∀ t, t < n → d'[b + t]! = d[a + t]!
theorem SwapR.zero (a b : Nat) (d : Array α) : SwapR a b 0 d d := ⟨rfl, fun _ _ => rfl, fun _ h => absurd h (by omega), fun _ h => absurd h (by omega)⟩
theorem SwapR.step {a b n : Nat} {d d' : Array α} (h : SwapR a b n d d') (hab : a + n < b) (hb : b + n < d.size) : SwapR a b (n + 1) d (swp d' (a + n) (b + n)) := by
 have g := swp_get d' (show a + n < d'.size by rw [h.size]; omega) (show b + n < d'.size by rw [h.size]; omega)
 have e1 := h.out (a + n) (by omega)
 have e2 := h.out (b + n) (by omega)
 refine ⟨(swp_size _ _ _).trans h.size, fun p hp => ?_, fun t ht => ?_, fun t ht => ?_⟩
 ·rw [g, if_neg (by omega), if_neg (by omega)]
  exact h.out p (by omega)
 ·rw [g, if_neg (by omega)]
  by_cases c : t = n
  ·subst c; rw [if_pos rfl, e2]
  ·rw [if_neg (by omega)]; exact h.fst t (by omega)
 ·rw [g]
  by_cases c : t = n
  ·subst c; rw [if_pos rfl, e1]
  ·rw [if_neg (by omega), if_neg (by omega)]; exact h.snd t (by omega)
theorem rot_same {m i : Nat} {d T : Array α} (hi : i ≤ m) (h : SwapR (m - i) m i d T) : RotR (m - i) m (m + i) d T := by
 refine ⟨h.size, fun p hp => h.out p (by omega), fun t ht => h.fst t (by omega), fun t ht => ?_⟩
 rw [show m - i + (m + i - m) + t = m + t by omega]
 exact h.snd t (by omega)
theorem rot_left {m i j : Nat} {d d' T : Array α} (hi : i ≤ m) (hij : j < i) (h : SwapR (m - i) m j d d') (hr : RotR (m - (i - j)) m (m + j) d' T) : RotR (m - i) m (m + j) d T := by
 refine ⟨hr.size.trans h.size, fun p hp => ?_, fun t ht => ?_, fun t ht => ?_⟩
 ·rw [hr.out p (by omega)]; exact h.out p (by omega)
 ·rw [hr.out _ (by omega)]; exact h.fst t (by omega)
 ·by_cases c : t < j
  ·have := hr.fst t (by omega)
   rw [show m - (i - j) + t = m - i + (m + j - m) + t by omega] at this
   rw [this]; exact h.snd t c
  ·have := hr.snd (t - j) (by omega)
   rw [show m - (i - j) + (m + j - m) + (t - j) = m - i + (m + j - m) + t by omega, show m - (i - j) + (t - j) = m - i + t by omega] at this
   rw [this]; exact h.out _ (by omega)
theorem rot_right {m i j : Nat} {d d' T : Array α} (hi : i ≤ m) (hij : i < j) (h : SwapR (m - i) (m + j - i) i d d') (hr : RotR (m - i) m (m + (j - i)) d' T) : RotR (m - i) m (m + j) d T := by
 refine ⟨hr.size.trans h.size, fun p hp => ?_, fun t ht => ?_, fun t ht => ?_⟩
 ·rw [hr.out p (by omega)]; exact h.out p (by omega)
 ·by_cases c : t < j - i
  ·rw [hr.fst t (by omega)]; exact h.out _ (by omega)
  ·have := hr.snd (t - (j - i)) (by omega)
   rw [show m - i + (m + (j - i) - m) + (t - (j - i)) = m - i + t by omega, h.fst _ (by omega), show m + j - i + (t - (j - i)) = m + t by omega] at this
   exact this
 ·rw [hr.out _ (by omega), show m - i + (m + j - m) + t = m + j - i + t by omega]
  exact h.snd t (by omega)
theorem RotR.same {a m b : Nat} {d : Array α} (ham : a ≤ m) (hmb : m ≤ b) (h : m ≤ a ∨ b ≤ m) : RotR a m b d d := by
 refine ⟨rfl, fun _ _ => rfl, fun t ht => ?_, fun t ht => ?_⟩
 ·rw [show a + t = m + t by omega]
 ·rw [show a + (b - m) + t = a + t by omega]

/-! ### The symmetric merge -/
/-- What the search for the place finds. -/
structure SymAt (lt : α → α → Bool) (a m b mid n lo hi s : Nat) (d : Array α) : Prop where
 ham : a < m
 hmb : m < b
 hmid : mid = (a + b) / 2
 hn : n = mid + m
 hlh : (mid < m ∧ lo = n - b ∧ hi = mid) ∨ (m ≤ mid ∧ lo = a ∧ hi = m)
 hs : lo ≤ s ∧ s ≤ hi
 left : s = lo ∨ lt d[n - s]! d[s - 1]! = false
 right : s = hi ∨ lt d[n - 1 - s]! d[s]! = true
 bd : b ≤ d.size
 s1 : SortedIn lt a m d
 s2 : SortedIn lt m b d
section
variable {a m b mid n lo hi s e : Nat} {d d1 : Array α}
theorem SymAt.pl (h : SymAt lt a m b mid n lo hi s d) : a ≤ s ∧ s ≤ m ∧ s ≤ mid ∧ m ≤ n - s ∧ n - s ≤ b ∧ s + (n - s - m) = mid ∧ s ≤ n ∧ mid < b ∧ a ≤ mid ∧ mid ≤ n - s := by
 have h1 := h.ham
 have h2 := h.hmb
 have h3 := h.hmid
 have h4 := h.hn
 have h6 := h.hs
 rcases h.hlh with ⟨h5, h7, h8⟩ | ⟨h5, h7, h8⟩ <;> omega
/-- What goes left is less than what goes right. -/
theorem SymAt.less (hS : SWO lt) (h : SymAt lt a m b mid n lo hi s d) (p q : Nat) (hp : s ≤ p) (hp2 : p < m) (hq : m ≤ q) (hq2 : q < n - s) : lt d[q]! d[p]! = true := by
 have hp' := h.pl
 have h4 := h.hn
 have h6 := h.hs
 have hr : lt d[n - 1 - s]! d[s]! = true := by
  rcases h.right with h7 | h7
  ·rcases h.hlh with ⟨h5, h8, h9⟩ | ⟨h5, h8, h9⟩ <;> omega
  ·exact h7
 have g1 := sle hS h.s2 q (n - 1 - s) hq (by omega) (by omega)
 have g2 := sle hS h.s1 s p (by omega) hp hp2
 exact lt_of_le_lt hS g1 (lt_of_lt_le hS hr g2)
/-- What stays left is no greater than what stays right. -/
theorem SymAt.le (hS : SWO lt) (h : SymAt lt a m b mid n lo hi s d) (p q : Nat) (hp : a ≤ p) (hp2 : p < s) (hq : n - s ≤ q) (hq2 : q < b) : lt d[q]! d[p]! = false := by
 have hp' := h.pl
 have h4 := h.hn
 have h6 := h.hs
 have hl : lt d[n - s]! d[s - 1]! = false := by
  rcases h.left with h7 | h7
  ·rcases h.hlh with ⟨h5, h8, h9⟩ | ⟨h5, h8, h9⟩ <;> omega
  ·exact h7
 have g1 := sle hS h.s2 (n - s) q (by omega) hq hq2
 have g2 := sle hS h.s1 p (s - 1) hp (by omega) (by omega)
 exact hS.ntrans _ _ _ (hS.ntrans _ _ _ g1 hl) g2
/-- Behind the rotation: four sorted pieces, the left half nowhere greater than the right. -/
structure SymHalves (lt : α → α → Bool) (a m b mid n s : Nat) (d1 : Array α) : Prop where
 p1 : SortedIn lt a s d1
 p2 : SortedIn lt s mid d1
 p3 : SortedIn lt mid (n - s) d1
 p4 : SortedIn lt (n - s) b d1
 cross : ∀ p q, a ≤ p → p < mid → mid ≤ q → q < b → lt d1[q]! d1[p]! = false
theorem SymAt.stab (hS : SWO lt) (h : SymAt lt a m b mid n lo hi s d) (hr : RotR s m (n - s) d d1) : Stab lt a b d d1 := by
 have hp' := h.pl
 have hb := h.bd
 exact (hr.stab hS (by omega) (by omega) (by omega) (h.less hS)).mono (by omega) (by omega)
theorem SymAt.halves (hS : SWO lt) (h : SymAt lt a m b mid n lo hi s d) (hr : RotR s m (n - s) d d1) : SymHalves lt a m b mid n s d1 := by
 have hp' := h.pl
 have f1 : ∀ p, s ≤ p → p < mid → d1[p]! = d[p + (m - s)]! := fun p h1 h2 => by
  have := hr.fst (p - s) (by omega)
  rw [show s + (p - s) = p by omega, show m + (p - s) = p + (m - s) by omega] at this
  exact this
 have f2 : ∀ p, mid ≤ p → p < n - s → d1[p]! = d[p - (mid - s)]! := fun p h1 h2 => by
  have := hr.snd (p - mid) (by have := h.hn; omega)
  rw [show s + (n - s - m) + (p - mid) = p by omega, show s + (p - mid) = p - (mid - s) by omega] at this
  exact this
 refine ⟨scong (ssub h.s1 (Nat.le_refl _) (by omega)) fun p h1 h2 => hr.out p (by omega), fun i j h1 h2 h3 => ?_, fun i j h1 h2 h3 => ?_, scong (ssub h.s2 (by omega) (Nat.le_refl _)) fun p h1 h2 => hr.out p (by omega), fun p q h1 h2 h3 h4 => ?_⟩
 ·rw [f1 i h1 (by omega), f1 j (by omega) h3]
  exact h.s2 _ _ (by omega) (by omega) (by have := h.hn; omega)
 ·rw [f2 i h1 (by omega), f2 j (by omega) h3]
  exact h.s1 _ _ (by omega) (by omega) (by have := h.hn; omega)
 ·by_cases c1 : p < s
  ·rw [hr.out p (by omega)]
   by_cases c2 : q < n - s
   ·rw [f2 q h3 c2]
    exact sle hS h.s1 _ _ h1 (by omega) (by have := h.hn; omega)
   ·rw [hr.out q (by omega)]
    exact h.le hS p q h1 c1 (by omega) h4
  ·rw [f1 p (by omega) h2]
   by_cases c2 : q < n - s
   ·rw [f2 q h3 c2]
    have := h.less hS (q - (mid - s)) (p + (m - s)) (by omega) (by have := h.hn; omega) (by omega) (by have := h.hn; omega)
    exact (Bool.eq_false_iff).2 fun hc => by
     have h8 := hS.trans _ _ _ this hc
     rw [hS.irrefl] at h8
     cases h8
   ·rw [hr.out q (by omega)]
    exact sle hS h.s2 _ _ (by omega) (by have := h.hn; omega) h4
end
/-- One half sorted: by the call, or because one of its pieces is empty. -/
theorem half_done {lo s hi : Nat} {d : Array α} (h1 : SortedIn lt lo s d) (h2 : SortedIn lt s hi d) (h : s ≤ lo ∨ hi ≤ s) : SortedIn lt lo hi d := by
 rcases h with h | h
 ·exact ssub h2 h (Nat.le_refl _)
 ·exact ssub h1 (Nat.le_refl _) h
/-- Both halves sorted. -/
theorem sym_join {a mid b : Nat} {d1 d2 d3 : Array α} (hc : ∀ p q, a ≤ p → p < mid → mid ≤ q → q < b → lt d1[q]! d1[p]! = false) (t2 : Stab lt a mid d1 d2) (s2 : SortedIn lt a mid d2) (t3 : Stab lt mid b d2 d3) (s3 : SortedIn lt mid b d3) :
  SortedIn lt a b d3 := by
 refine sjoin (scong s2 fun p h1 h2 => t3.out p (by omega)) s3 fun p q h1 h2 h3 h4 => ?_
 obtain ⟨q', q1, q2, e1⟩ := t3.mem q h3 h4
 obtain ⟨p', p1, p2, e2⟩ := t2.mem p h1 h2
 rw [e1, t3.out p (by omega), e2, t2.out q' (by omega)]
 exact hc p' q' p1 p2 q1 q2

/-! ### One by one into a sorted row -/
/-- data[a] on its way to the right, to stand ahead of i: it has come to k. -/
structure Ride (lt : α → α → Bool) (a k : Nat) (d d' : Array α) : Prop where
 st : Stab lt a (k + 1) d d'
 at_ : d'[k]! = d[a]!
 back : ∀ p, a ≤ p → p < k → d'[p]! = d[p + 1]!
theorem Ride.zero (a : Nat) (d : Array α) : Ride lt a a d d := ⟨Stab.refl _ _ _, rfl, fun p h1 h2 => absurd h1 (by omega)⟩
theorem Ride.step (hS : SWO lt) {a k : Nat} {d d' : Array α} (h : Ride lt a k d d') (hak : a ≤ k) (hk : k + 1 < d.size) (hl : lt d[k + 1]! d[a]! = true) : Ride lt a (k + 1) d (swp d' k (k + 1)) := by
 have hz := h.st.size
 have e1 := h.st.out (k + 1) (by omega)
 have g := swp_get d' (show k < d'.size by omega) (show k + 1 < d'.size by omega)
 refine ⟨?_, ?_, fun p h1 h2 => ?_⟩
 ·rw [swp_comm d' k (k + 1) (by omega) (by omega)]
  exact (h.st.mono (Nat.le_refl _) (by omega)).trans ((swp_stab hS d' k (by omega) (by rw [e1, h.at_]; exact hl)).mono (by omega) (by omega))
 ·rw [g, if_pos rfl]; exact h.at_
 ·rw [g, if_neg (by omega)]
  by_cases c : p = k
  ·subst c; rw [if_pos rfl, e1]
  ·rw [if_neg c]; exact h.back p h1 (by omega)
/-- It has come. -/
theorem Ride.sorted (hS : SWO lt) {a i b : Nat} {d d' : Array α} (h : Ride lt a (i - 1) d d') (hi : a + 1 ≤ i) (hib : i ≤ b) (hs : SortedIn lt (a + 1) b d) (hle : i = b ∨ lt d[i]! d[a]! = false) (hl : ∀ q, a + 1 ≤ q → q < i → lt d[q]! d[a]! = true) : SortedIn lt a b d' := by
 intro p q hp hpq hq
 have o : ∀ p, i ≤ p → d'[p]! = d[p]! := fun p hp => h.st.out p (by omega)
 by_cases c1 : q < i - 1
 ·rw [h.back p hp (by omega), h.back q (by omega) c1]
  exact hs _ _ (by omega) (by omega) (by omega)
 ·by_cases c2 : q = i - 1
  ·subst c2
   rw [h.at_, h.back p hp (by omega)]
   have := hl (p + 1) (by omega) (by omega)
   exact (Bool.eq_false_iff).2 fun hc => by
    have h8 := hS.trans _ _ _ this hc
    rw [hS.irrefl] at h8
    cases h8
  ·rw [o q (by omega)]
   have hq0 : lt d[q]! d[a]! = false := by
    rcases hle with hle | hle
    ·omega
    ·exact hS.ntrans _ _ _ (sle hS hs i q (by omega) (by omega) hq) hle
   by_cases c3 : p < i - 1
   ·rw [h.back p hp c3]
    exact hs _ _ (by omega) (by omega) hq
   ·by_cases c4 : p = i - 1
    ·subst c4; rw [h.at_]; exact hq0
    ·rw [o p (by omega)]
     exact hs _ _ (by omega) (by omega) hq
/-- data[m] on its way to the left: it has come to k. -/
structure Sink (lt : α → α → Bool) (k m : Nat) (d d' : Array α) : Prop where
 st : Stab lt k (m + 1) d d'
 at_ : d'[k]! = d[m]!
 back : ∀ p, k < p → p ≤ m → d'[p]! = d[p - 1]!
theorem Sink.zero (m : Nat) (d : Array α) : Sink lt m m d d := ⟨Stab.refl _ _ _, rfl, fun p h1 h2 => absurd h1 (by omega)⟩
theorem Sink.step (hS : SWO lt) {k m : Nat} {d d' : Array α} (h : Sink lt (k + 1) m d d') (hkm : k + 1 ≤ m) (hm : m < d.size) (hl : lt d[m]! d[k]! = true) : Sink lt k m d (swp d' (k + 1) k) := by
 have hz := h.st.size
 have e1 := h.st.out k (by omega)
 have g := swp_get d' (show k + 1 < d'.size by omega) (show k < d'.size by omega)
 refine ⟨?_, ?_, fun p h1 h2 => ?_⟩
 ·exact (h.st.mono (by omega) (Nat.le_refl _)).trans ((swp_stab hS d' k (by omega) (by rw [e1, h.at_]; exact hl)).mono (by omega) (by omega))
 ·rw [g, if_pos rfl]; exact h.at_
 ·rw [g, if_neg (by omega)]
  by_cases c : p = k + 1
  ·subst c; rw [if_pos rfl, e1]; rfl
  ·rw [if_neg c]; exact h.back p (by omega) h2
theorem Sink.sorted (hS : SWO lt) {a i m : Nat} {d d' : Array α} (h : Sink lt i m d d') (hi : a ≤ i) (him : i ≤ m) (hs : SortedIn lt a m d) (hle : i = a ∨ lt d[m]! d[i - 1]! = false) (hl : ∀ q, i ≤ q → q < m → lt d[m]! d[q]! = true) : SortedIn lt a (m + 1) d' := by
 intro p q hp hpq hq
 have o : ∀ p, p < i → d'[p]! = d[p]! := fun p hp => h.st.out p (by omega)
 by_cases c1 : i < p
 ·rw [h.back p c1 (by omega), h.back q (by omega) (by omega)]
  exact hs _ _ (by omega) (by omega) (by omega)
 ·by_cases c2 : p = i
  ·subst c2
   rw [h.at_, h.back q hpq (by omega)]
   have := hl (q - 1) (by omega) (by omega)
   exact (Bool.eq_false_iff).2 fun hc => by
    have h8 := hS.trans _ _ _ this hc
    rw [hS.irrefl] at h8
    cases h8
  ·rw [o p (by omega)]
   by_cases c3 : q < i
   ·rw [o q c3]
    exact hs _ _ hp hpq (by omega)
   ·have hp0 : lt d[m]! d[p]! = false := by
     rcases hle with hle | hle
     ·omega
     ·exact hS.ntrans _ _ _ hle (sle hS hs p (i - 1) hp (by omega) (by omega))
    by_cases c4 : q = i
    ·subst c4; rw [h.at_]; exact hp0
    ·rw [h.back q (by omega) (by omega)]
     exact hs _ _ hp (by omega) (by omega)

/-! ### Blocks -/
def Blk (lt : α → α → Bool) (bs lo n : Nat) (d : Array α) : Prop := ∀ c, lo ≤ c * bs → SortedIn lt (c * bs) (min n (c * bs + bs)) d
def Done (lt : α → α → Bool) (bs hi : Nat) (d : Array α) : Prop := ∀ c, c * bs + bs ≤ hi → SortedIn lt (c * bs) (c * bs + bs) d
theorem mul_step {c e w : Nat} (h : c < e) : c * w + w ≤ e * w := by
 have := Nat.mul_le_mul_right w (show c + 1 ≤ e from h)
 rw [Nat.succ_mul] at this
 exact this
theorem Done.zero (bs : Nat) (h : 0 < bs) (d : Array α) : Done lt bs 0 d := fun c hc => absurd hc (by omega)
theorem Done.next {bs a e : Nat} {d d' : Array α} (h : Done lt bs a d) (he : a = e * bs) (hb : 0 < bs) (ht : Stab lt a (a + bs) d d') (hs : SortedIn lt a (a + bs) d') : Done lt bs (a + bs) d' := fun c hc => by
 rcases Nat.lt_trichotomy c e with h1 | h1 | h1
 ·have := mul_step (w := bs) h1
  exact ht.sortedOut (h c (by omega)) (by omega)
 ·subst h1; subst he; exact hs
 ·have := mul_step (w := bs) h1
  omega
theorem Done.last {bs a e n : Nat} {d d' : Array α} (h : Done lt bs a d) (he : a = e * bs) (hn : n < a + bs) (ht : Stab lt a n d d') (hs : SortedIn lt a n d') : Blk lt bs 0 n d' := fun c _ => by
 rcases Nat.lt_trichotomy c e with h1 | h1 | h1
 ·have := mul_step (w := bs) h1
  exact ssub (ht.sortedOut (h c (by omega)) (by omega)) (Nat.le_refl _) (Nat.min_le_right _ _)
 ·subst h1; subst he; exact ssub hs (Nat.le_refl _) (Nat.min_le_left _ _)
 ·have := mul_step (w := bs) h1
  have := Nat.min_le_left n (c * bs + bs)
  intro i j h1 h2 h3
  omega
theorem Blk.one {bs n a e : Nat} {d : Array α} (h : Blk lt bs a n d) (he : a = e * (2 * bs)) (hb : a + bs ≤ n) : SortedIn lt a (a + bs) d := by
 have e1 : e * (2 * bs) = (2 * e) * bs := by rw [← Nat.mul_assoc, Nat.mul_comm e 2]
 have := h (2 * e) (by omega)
 rw [← e1, ← he, Nat.min_eq_right hb] at this
 exact this
theorem Blk.two {bs n a e : Nat} {d : Array α} (h : Blk lt bs a n d) (he : a = e * (2 * bs)) : SortedIn lt (a + bs) (min n (a + 2 * bs)) d := by
 have e1 : e * (2 * bs) + bs = (2 * e + 1) * bs := by rw [Nat.add_mul, Nat.one_mul, ← Nat.mul_assoc, Nat.mul_comm e 2]
 have := h (2 * e + 1) (by omega)
 rw [← e1, ← he, show a + bs + bs = a + 2 * bs by omega] at this
 exact this
theorem Blk.next {bs n a : Nat} {d d' : Array α} (h : Blk lt bs a n d) (ht : Stab lt a (a + 2 * bs) d d') : Blk lt bs (a + 2 * bs) n d' := fun c hc => ht.sortedOut (h c (by omega)) (.inr hc)
theorem Blk.whole {bs n : Nat} {d : Array α} (h : Blk lt bs 0 n d) (hn : n ≤ bs) : SortedIn lt 0 n d := by
 have := h 0 (Nat.zero_le _)
 rw [Nat.zero_mul, Nat.zero_add, Nat.min_eq_left hn] at this
 exact this

/-! ### One answer -/
theorem sortedIn_tail {x : α} {l : List α} (h : (x :: l).Pairwise fun a b => lt b a = false) : l.Pairwise fun a b => lt b a = false := (List.pairwise_cons.1 h).2
theorem sorted_list {d : Array α} (h : SortedIn lt 0 d.size d) : d.toList.Pairwise fun a b => lt b a = false := by
 rw [List.pairwise_iff_getElem]
 intro i j hi hj hij
 have := h i j (Nat.zero_le _) hij (by simpa using hj)
 rw [arr_at d i (by simpa using hi), arr_at d j (by simpa using hj)] at this
 simpa using this
theorem StEq.mem {l l' : List α} (hS : SWO lt) (h : StEq lt l l') (x : α) : x ∈ l' ↔ x ∈ l := by
 have e := h x
 have hx : eqv lt x x = true := by simp [eqv, hS.irrefl]
 constructor
 ·intro hm
  have : x ∈ l'.filter (eqv lt x) := List.mem_filter.2 ⟨hm, hx⟩
  rw [e] at this
  exact (List.mem_filter.1 this).1
 ·intro hm
  have : x ∈ l.filter (eqv lt x) := List.mem_filter.2 ⟨hm, hx⟩
  rw [← e] at this
  exact (List.mem_filter.1 this).1
theorem StEq.unique (hS : SWO lt) : ∀ (l l' : List α), StEq lt l l' → (l.Pairwise fun a b => lt b a = false) → (l'.Pairwise fun a b => lt b a = false) → l' = l
 | [], l', h, _, _ => by
  cases l' with
  | nil => rfl
  | cons y t => exact absurd ((h.mem hS y).1 List.mem_cons_self) (by simp)
 | x :: l, [], h, _, _ => absurd ((h.mem hS x).2 List.mem_cons_self) (by simp)
 | x :: l, y :: l', h, h1, h2 => by
  have hxx : eqv lt x x = true := by simp [eqv, hS.irrefl]
  have a1 : lt y x = false := by
   rcases List.mem_cons.1 ((h.mem hS y).1 List.mem_cons_self) with e | e
   ·rw [e]; exact hS.irrefl _
   ·exact (List.pairwise_cons.1 h1).1 y e
  have a2 : lt x y = false := by
   rcases List.mem_cons.1 ((h.mem hS x).2 List.mem_cons_self) with e | e
   ·rw [e]; exact hS.irrefl _
   ·exact (List.pairwise_cons.1 h2).1 x e
  have hxy : eqv lt x y = true := by simp [eqv, a1, a2]
  have e := h x
  rw [List.filter_cons_of_pos hxx, List.filter_cons_of_pos hxy] at e
  obtain ⟨rfl, _⟩ := List.cons.inj e
  have ht : StEq lt l l' := fun z => by
   have e := h z
   by_cases c : eqv lt z y = true
   ·rw [List.filter_cons_of_pos c, List.filter_cons_of_pos c] at e
    exact (List.cons.inj e).2
   ·rw [List.filter_cons_of_neg c, List.filter_cons_of_neg c] at e
    exact e
  rw [StEq.unique hS l l' ht (sortedIn_tail h1) (sortedIn_tail h2)]
end Go.Proofs.Ytfmjgjfbnilpoaa.FAll
