/-
  The plain law of OrderSorts: sorted is the list in another order, and rises; Distinct has each of its numbers once; Below parts a rising list.
-/
import Derived.Test.YtdhiljimmijghaaOs
import Derived.Test.YtdhiljimmijghaaFAllx
namespace Go.Proofs.Ytdhiljimmijghaa.Pure
open Go.Sort Go.RowKit Go.Proofs.Ytdhiljimmijghaa Go.Proofs.Ytdhiljimmijghaa.FAll Go.Proofs.YtdhiljimmijghaaW.PrintWords Go.Proofs.YtdhiljimmijghaaW.PrintLast Go.Proofs.YtdhiljimmijghaaW.PrintMore
set_option linter.unusedVariables false
set_option linter.unusedSimpArgs false
theorem bz_of' (l : List Int) (h : ∀ x ∈ l, (Lit.int .u64 x).wf = true) : ∃ m : List Nat, l = bz m ∧ ∀ x ∈ m, x < 2 ^ 64 := by
  have hw : ∀ x ∈ l, 0 ≤ x ∧ x < 18446744073709551616 := fun x hx => by
    have := h x hx
    have h2 : IntKind.u64.min ≤ x ∧ x ≤ IntKind.u64.max := by simpa [Lit.wf] using this
    have e1 : IntKind.u64.min = 0 := rfl
    have e2 : IntKind.u64.max = 18446744073709551615 := rfl
    omega
  refine ⟨l.map Int.toNat, ?_, ?_⟩
  · unfold bz
    rw [List.map_map]
    conv => lhs; rw [← List.map_id l]
    refine List.map_congr_left fun x hx => ?_
    have := hw x hx
    simp only [Function.comp, id, Int.ofNat_eq_natCast]
    omega
  · intro x hx
    obtain ⟨y, hy, rfl⟩ := List.mem_map.1 hx
    have := hw y hy
    omega
/-! another order -/
theorem st_perm {l l' : List Nat} (h : StEq ltK l l') : l'.Perm l := by
  rw [List.perm_iff_count]
  intro a
  have hp : eqv ltK a a = true := by simp [eqv, swoK.irrefl]
  rw [← List.count_filter (l := l') hp, ← List.count_filter (l := l) hp, h a]
/-! counts -/
def cl (x : Nat) : Nat := if isNaN x then 9221120237041090561 else x
def rem : List Nat → List Bool → List Nat
  | x :: b, u :: us => if u then rem b us else cl x :: rem b us
  | _, _ => []
theorem rem_false : ∀ b : List Nat, rem b (List.replicate b.length false) = b.map cl
  | [] => rfl
  | x :: b => by rw [List.length_cons, List.replicate_succ, rem, if_neg (by decide), rem_false b]; rfl
theorem rem_set : ∀ (b : List Nat) (us : List Bool) (q : Nat) (h1 : q < b.length) (h2 : q < us.length), us[q] = false → (rem b us).Perm (cl b[q] :: rem b (us.set q true))
  | [], us, q, h1, h2, h => absurd h1 (by simp)
  | x :: b, [], q, h1, h2, h => absurd h2 (by simp)
  | x :: b, u :: us, 0, h1, h2, h => by
    obtain rfl : u = false := h
    simp [rem]
  | x :: b, u :: us, q + 1, h1, h2, h => by
    have ih := rem_set b us q (by simpa using h1) (by simpa using h2) (by simpa using h)
    simp only [List.set_cons_succ, rem, List.getElem_cons_succ]
    cases u
    · exact (List.Perm.cons _ ih).trans (List.Perm.swap _ _ _)
    · exact ih
theorem rem_mem {c : Nat} : ∀ (b : List Nat) (us : List Bool), c ∈ rem b us → ∃ (q : Nat) (h1 : q < b.length) (h2 : q < us.length), us[q] = false ∧ cl b[q] = c
  | [], us, h => by simp [rem] at h
  | x :: b, [], h => by simp [rem] at h
  | x :: b, u :: us, h => by
    unfold rem at h
    cases u
    · simp only [Bool.false_eq_true, if_false] at h
      rcases List.mem_cons.1 h with h | h
      · exact ⟨0, by simp, by simp, rfl, h.symm⟩
      · obtain ⟨q, h1, h2, h3, h4⟩ := rem_mem b us h
        exact ⟨q + 1, by simpa using h1, by simpa using h2, by simpa using h3, by simpa using h4⟩
    · simp only [if_true] at h
      obtain ⟨q, h1, h2, h3, h4⟩ := rem_mem b us h
      exact ⟨q + 1, by simpa using h1, by simpa using h2, by simpa using h3, by simpa using h4⟩
theorem rd_bool (us : List Bool) (j : Nat) (hj : j < us.length) : rdOf false us (j : Int) = us[j] := by
  unfold rdOf
  rw [Int.toNat_natCast, List.getD_eq_getElem?_getD, List.getElem?_eq_getElem hj]
  rfl
section
variable {a b : List Nat} (ha : ∀ x ∈ a, x < 2 ^ 64) (hb : ∀ x ∈ b, x < 2 ^ 64) (hl : b.length ≤ 17592186044416)
include ha hb hl
theorem found_ev (us : List Bool) (hu : us.length = b.length) (i : Nat) (hi : i < a.length) (v : Bool)
    (H : ∀ q (h1 : q < b.length), us[q]'(by omega) = false → cl b[q] = cl a[i] → Ev (fun k => thicketlaw06_counts.l0 k a b (us.set q true) (wrap64 ((i : Int) + 1))) v) :
    ∀ (d j p : Nat) (hp : p < b.length), j + d = p → us[p]'(by omega) = false → cl b[p] = cl a[i] → Ev (fun k => thicketlaw06_counts.l1 k a b us (i : Int) false (j : Int)) v := by
  intro d
  induction d with
  | zero =>
    intro j p hp hj h1 h2
    obtain rfl : j = p := by omega
    refine Ev.step (fun k => thicketlaw06_counts.l1.eq_2 a b us _ _ _ k) (Ev.pos (by omega) ?_)
    have hai := ha _ (List.getElem_mem hi)
    have hbj := hb _ (List.getElem_mem hp)
    have go : Ev (fun k => thicketlaw06_counts.l1 k a b (us.set ((j : Int)).toNat true) (i : Int) true (wrap64 ((j : Int) + 1))) v := by
      rw [w1 (n := b.length) hp hl, Int.toNat_natCast]
      refine Ev.step (fun k => thicketlaw06_counts.l1.eq_2 a b _ _ _ _ k) ?_
      have out : ∀ z : Bool, z = false → Ev (fun k => thicketlaw06_counts.j2 k a b (us.set j true) (i : Int) true ((j + 1 : Nat) : Int) z) v := by
        rintro z rfl
        exact Ev.step (fun k => thicketlaw06_counts.j2.eq_2 a b _ _ _ _ _ k) (Ev.neg (by decide) (Ev.pos rfl (H j hp h1 h2)))
      by_cases c : j + 1 < b.length
      · exact Ev.pos (by omega) (out _ rfl)
      · exact Ev.neg (by omega) (out _ rfl)
    refine Ev.step (fun k => thicketlaw06_counts.j2.eq_2 a b us _ _ _ _ k) (Ev.pos rfl (Ev.pos (by omega) (Ev.pos (by rw [hu]; omega) ?_)))
    rw [rd_bool us j (by omega), h1, rdOf_nat a i hi, rdOf_nat b j hp]
    refine Ev.neg (by decide) (Ev.pos (by omega) (Ev.pos (by omega) (Ev.pos (by omega) ?_)))
    rw [feq_self hai, feq_self hbj]
    by_cases e : f64bits a[i] = f64bits b[j]
    · exact Ev.pos e go
    · refine Ev.neg e ?_
      unfold cl at h2
      by_cases na : isNaN a[i] = true
      · rw [na]
        refine Ev.neg (by decide) ?_
        by_cases nb : isNaN b[j] = true
        · rw [nb]; exact Ev.neg (by decide) go
        · rw [if_neg nb, if_pos na] at h2
          exfalso
          apply nb
          rw [h2]
          decide +kernel
      · rw [if_neg na] at h2
        by_cases nb : isNaN b[j] = true
        · rw [if_pos nb] at h2
          exfalso
          apply na
          rw [← h2]
          decide +kernel
        · rw [if_neg nb] at h2
          exact absurd (by unfold f64bits; rw [h2]) e
  | succ d ih =>
    intro j p hp hj h1 h2
    have hj2 : j < b.length := by omega
    refine Ev.step (fun k => thicketlaw06_counts.l1.eq_2 a b us _ _ _ k) (Ev.pos (by omega) ?_)
    have hai := ha _ (List.getElem_mem hi)
    have hbj := hb _ (List.getElem_mem hj2)
    have nxt : Ev (fun k => thicketlaw06_counts.l1 k a b us (i : Int) false (wrap64 ((j : Int) + 1))) v := by
      rw [w1 (n := b.length) hj2 hl]
      exact ih (j + 1) p hp (by omega) h1 h2
    refine Ev.step (fun k => thicketlaw06_counts.j2.eq_2 a b us _ _ _ _ k) (Ev.pos rfl (Ev.pos (by omega) (Ev.pos (by rw [hu]; omega) ?_)))
    rw [rd_bool us j (by omega), rdOf_nat a i hi, rdOf_nat b j hj2]
    by_cases hu2 : us[j]'(by omega) = true
    · exact Ev.pos hu2 nxt
    · have hu3 : us[j]'(by omega) = false := by simpa using hu2
      have go : cl b[j] = cl a[i] → Ev (fun k => thicketlaw06_counts.l1 k a b (us.set ((j : Int)).toNat true) (i : Int) true (wrap64 ((j : Int) + 1))) v := by
        intro h3
        rw [w1 (n := b.length) hj2 hl, Int.toNat_natCast]
        refine Ev.step (fun k => thicketlaw06_counts.l1.eq_2 a b _ _ _ _ k) ?_
        have out : ∀ z : Bool, z = false → Ev (fun k => thicketlaw06_counts.j2 k a b (us.set j true) (i : Int) true ((j + 1 : Nat) : Int) z) v := by
          rintro z rfl
          exact Ev.step (fun k => thicketlaw06_counts.j2.eq_2 a b _ _ _ _ _ k) (Ev.neg (by decide) (Ev.pos rfl (H j hj2 hu3 h3)))
        by_cases c : j + 1 < b.length
        · exact Ev.pos (by omega) (out _ rfl)
        · exact Ev.neg (by omega) (out _ rfl)
      refine Ev.neg hu2 (Ev.pos (by omega) (Ev.pos (by omega) (Ev.pos (by omega) ?_)))
      rw [feq_self hai, feq_self hbj]
      by_cases e : f64bits a[i] = f64bits b[j]
      · refine Ev.pos e (go ?_)
        unfold f64bits at e
        rw [show a[i] = b[j] by omega]
      · refine Ev.neg e ?_
        by_cases na : isNaN a[i] = true
        · rw [na]
          refine Ev.neg (by decide) ?_
          by_cases nb : isNaN b[j] = true
          · rw [nb]
            exact Ev.neg (by decide) (go (by unfold cl; rw [if_pos na, if_pos nb]))
          · exact Ev.pos (by simp [nb]) nxt
        · exact Ev.pos (by simp [na]) nxt
theorem counts_ev (hp : b.Perm a) : Ev (fun k => thicketlaw06_counts.f k a b) true := by
  have hlen := hp.length_eq
  unfold thicketlaw06_counts.f
  refine Ev.pos (by omega) (Ev.pos (by omega) (Ev.pos (by omega) ?_))
  have L : ∀ n i us, i + n = a.length → us.length = b.length → (rem b us).Perm ((a.drop i).map cl) → Ev (fun k => thicketlaw06_counts.l0 k a b us (i : Int)) true := by
    intro n
    induction n with
    | zero =>
      intro i us hi _ _
      exact Ev.step (fun k => thicketlaw06_counts.l0.eq_2 a b us _ k) (Ev.neg (by omega) (Ev.now _))
    | succ n ih =>
      intro i us hi hu hr
      have hlt : i < a.length := by omega
      refine Ev.step (fun k => thicketlaw06_counts.l0.eq_2 a b us _ k) (Ev.pos (by omega) ?_)
      rw [List.drop_eq_getElem_cons hlt, List.map_cons] at hr
      obtain ⟨p, h1, h2, h3, h4⟩ := rem_mem b us (hr.mem_iff.2 List.mem_cons_self)
      refine found_ev ha hb hl us hu i hlt true (fun q hq hf hc => ?_) p 0 p h1 (by omega) h3 h4
      rw [w1 (n := a.length) hlt (by omega)]
      refine ih (i + 1) _ (by omega) (by rw [List.length_set]; exact hu) ?_
      have h5 := (rem_set b us q hq (by omega) hf).symm.trans hr
      rw [hc] at h5
      exact h5.cons_inv
  have := L a.length 0 (List.replicate b.length false) (by omega) (by simp) (by rw [rem_false, List.drop_zero]; exact hp.map cl)
  simpa using this
end
/-! rising -/
theorem rises_le {s : List Nat} (hb : ∀ x ∈ s, x < 2 ^ 64) (hr : Rises ltK s) : s.Pairwise fun x y => fkey x ≤ fkey y := by
  have hr2 : s.Pairwise fun a b => ltK b a = false := hr
  rw [List.pairwise_iff_getElem] at hr2 ⊢
  intro i j hi hj hij
  have := hr2 i j hi hj hij
  rw [ltK_eq (hb _ (List.getElem_mem _)) (hb _ (List.getElem_mem _))] at this
  have := of_decide_eq_false this
  omega
theorem cntK_cons (y : Int) (x : Nat) (r : List Nat) : cntK y (x :: r) = (if fkey x < y then 1 else 0) + cntK y r := by
  unfold cntK
  by_cases h : fkey x < y
  · rw [List.filter_cons_of_pos (by simpa using h), if_pos h, List.length_cons]; omega
  · rw [List.filter_cons_of_neg (by simpa using h), if_neg h]; omega
theorem cntK_none (y : Int) : ∀ s : List Nat, (∀ x ∈ s, ¬ fkey x < y) → cntK y s = 0
  | [], _ => rfl
  | x :: r, h => by rw [cntK_cons, if_neg (h x List.mem_cons_self), cntK_none y r fun z hz => h z (List.mem_cons_of_mem _ hz)]
theorem cntK_rising (y : Int) : ∀ s : List Nat, (s.Pairwise fun a b => fkey a ≤ fkey b) → ∀ i (h : i < s.length), fkey s[i] < y ↔ i < cntK y s
  | [], _, i, h => absurd h (Nat.not_lt_zero _)
  | x :: r, hr, i, h => by
    obtain ⟨h1, h2⟩ := List.pairwise_cons.1 hr
    rw [cntK_cons]
    by_cases hx : fkey x < y
    · rw [if_pos hx]
      cases i with
      | zero => exact ⟨fun _ => by omega, fun _ => hx⟩
      | succ i =>
        have := cntK_rising y r h2 i (by simpa using h)
        rw [List.getElem_cons_succ, this]
        omega
    · rw [if_neg hx, cntK_none y r (fun z hz => by have := h1 z hz; omega)]
      cases i with
      | zero => exact ⟨fun h => absurd h hx, fun h => absurd h (by omega)⟩
      | succ i =>
        rw [List.getElem_cons_succ]
        have := h1 _ (List.getElem_mem (show i < r.length by simpa using h))
        exact ⟨fun h => by omega, fun h => by omega⟩
theorem next_key {D : List Int} (hD : D.Pairwise (· < ·)) (c : Nat) (x : Int) (hx : x ∈ D) (hlow : ∀ y ∈ D, y < x → y ∈ D.take c) (hn : x ∉ D.take c) : ∃ h : c < D.length, D[c] = x := by
  obtain ⟨p, hp, rfl⟩ := List.mem_iff_getElem.1 hx
  have hcp : c ≤ p := by
    rcases Nat.lt_or_ge p c with h | h
    · exact absurd (List.mem_take_iff_getElem.2 ⟨p, by omega, rfl⟩) hn
    · exact h
  refine ⟨by omega, ?_⟩
  by_cases e : c = p
  · subst e; rfl
  · have h1 := (List.pairwise_iff_getElem.1 hD) c p (by omega) hp (by omega)
    have h2 := hlow D[c] (List.getElem_mem _) h1
    obtain ⟨q, hq, e2⟩ := List.mem_take_iff_getElem.1 h2
    have h3 := (List.pairwise_iff_getElem.1 hD) q c (by omega) (by omega) (by omega)
    omega
theorem OrderSorts : thicketlaw06_OrderSorts.Pure := by
  intro l0 a1 h1 h2 h3 h4
  obtain ⟨m, rfl, hm⟩ := bz_of' l0 h3
  obtain ⟨vs, hv, hv64⟩ := bz_of' [a1] (fun x hx => by rw [List.mem_singleton.1 hx]; exact h4)
  obtain ⟨v, rfl⟩ : ∃ v, vs = [v] := by
    match vs, hv with
    | [v], _ => exact ⟨v, rfl⟩
  obtain rfl : a1 = (v : Int) := by simpa [bz] using hv
  have hv' : v < 2 ^ 64 := hv64 v (List.mem_singleton.2 rfl)
  rw [List.length_map] at h2
  have hlen : m.length ≤ 17592186043904 := by omega
  have hsl := sortL_len m
  have hst := sortL_st swoK m
  obtain ⟨s, hs⟩ : ∃ s, s = sortL ltK m := ⟨_, rfl⟩
  rw [← hs] at hsl hst
  have hsw : ∀ x ∈ s, x < 2 ^ 64 := mem_wf hst hm
  have hrs : Rises ltK s := by rw [hs]; exact sortL_rises swoK m
  have hle := rises_le hsw hrs
  have hperm := st_perm hst
  have hget : ∀ i j (hi : i < s.length) (hj : j < s.length), i ≤ j → fkey s[i] ≤ fkey s[j] := fun i j hi hj hij => by
    rcases Nat.lt_or_ge i j with h | h
    · exact (List.pairwise_iff_getElem.1 hle) i j hi hj h
    · obtain rfl : i = j := by omega
      exact Int.le_refl _
  obtain ⟨D, hD⟩ : ∃ D, D = keysL m := ⟨_, rfl⟩
  have hDm := keysL_of m
  rw [← hD] at hDm
  have hDs : DistinctOf s D := ⟨hDm.rises, fun x => by
    rw [hDm.mem]
    constructor
    · rintro ⟨c, h5, h6⟩; exact ⟨c, (hst.mem swoK c).2 h5, h6⟩
    · rintro ⟨c, h5, h6⟩; exact ⟨c, (hst.mem swoK c).1 h5, h6⟩, by have := hDm.len; omega⟩
  have hcnt : cntK (fkey v) s = cntK (fkey v) m := (hperm.filter _).length_eq
  have hDk : ∀ x ∈ D, 0 ≤ x ∧ x < 18437736874454810625 := fun x hx => by
    obtain ⟨b, h5, h6, h7⟩ := (hDs.mem x).1 hx
    have h8 := fkey_le (b := b) (hsw b h5) h6
    have h9 := fkey_bounds (b := b) (hsw b h5)
    omega
  -- the last loop
  have L2 : Ev (fun k => thicketlaw06_OrderSorts.l2 k s v ((cntK (fkey v) s : Nat) : Int) 0) true := by
    refine countUp (γ := Unit) (g := fun _ j k => thicketlaw06_OrderSorts.l2 k s v ((cntK (fkey v) s : Nat) : Int) j) (n := s.length) (st := fun _ => ()) ?_ ?_
    · intro j hj H
      refine Ev.step (fun k => thicketlaw06_OrderSorts.l2.eq_2 s v _ _ k) (Ev.pos (by omega) (Ev.pos (by omega) (Ev.bindc (v := icmp (fkey s[j]) (fkey v)) ?_ (Ev.neg ?_ ?_))))
      · rw [rdOf_nat s j hj]; exact compare_f (hsw _ (List.getElem_mem hj)) hv'
      · have hr := cntK_rising (fkey v) s hle j hj
        have e1 : decide (icmp (fkey s[j]) (fkey v) < 0) = decide (fkey s[j] < fkey v) := by
          unfold icmp
          by_cases c : fkey s[j] < fkey v
          · rw [if_pos c]; simp [c]
          · rw [if_neg c]
            by_cases c2 : fkey v < fkey s[j]
            · rw [if_pos c2]; simp [c]
            · rw [if_neg c2]; simp [c]
        have e2 : decide ((j : Int) < ((cntK (fkey v) s : Nat) : Int)) = decide (fkey s[j] < fkey v) := by
          rw [decide_eq_decide, hr]; omega
        rw [e1, e2]
        simp
      · rw [w1 hj (by omega)]; exact H
    · exact Ev.step (fun k => thicketlaw06_OrderSorts.l2.eq_2 s v _ _ k) (Ev.neg (by omega) (Ev.now _))
  -- the middle loop
  have L1 : ∀ n i c, i + n = s.length → DistinctOf (s.take i) (D.take c) → c ≤ D.length → Ev (fun k => thicketlaw06_OrderSorts.l1 k (v : Int) m s (D.map atBits) (c : Int) (i : Int)) true := by
    intro n
    induction n with
    | zero =>
      intro i c hi hd hc
      have hce : c = D.length := by
        rw [List.take_of_length_le (by omega)] at hd
        have h5 := congrArg List.length (distinct_unique hd hDs)
        rw [List.length_take] at h5
        omega
      have hb1 := below_ev s (by omega) hsw hv'
      have hb2 := below_ev m (by omega) hm hv'
      rw [← hcnt] at hb2
      have hc2 := cntK_le (fkey v) s
      refine Ev.step (fun k => thicketlaw06_OrderSorts.l1.eq_2 _ m s _ _ _ k) (Ev.neg (by omega) (Ev.bind (a := ((cntK (fkey v) s : Nat) : Int)) (by simpa [f64from] using hb1) (Ev.pos (by rw [List.length_map, hce]) (Ev.neg (by omega) (Ev.neg (by omega) (Ev.bind (a := ((cntK (fkey v) s : Nat) : Int)) (by simpa [f64from] using hb2) ?_))))))
      refine Ev.step (fun k => thicketlaw06_OrderSorts.j3.eq_2 s _ _ _ k) (Ev.neg (by simp) ?_)
      exact L2
    | succ n ih =>
      intro i c hi hd hc
      have hlt : i < s.length := by omega
      have hx := hsw _ (List.getElem_mem hlt)
      have hnext := ih (i + 1)
      rw [List.take_succ_eq_append_getElem hlt] at hnext
      have skip : ∀ z : Bool, z = true → DistinctOf (s.take i ++ [s[i]]) (D.take c) → Ev (fun k => thicketlaw06_OrderSorts.j2 k (v : Int) m s (D.map atBits) (c : Int) (i : Int) z) true := by
        rintro z rfl hd2
        refine Ev.step (fun k => thicketlaw06_OrderSorts.j2.eq_2 _ m s _ _ _ _ k) (Ev.pos rfl ?_)
        rw [w1 (n := s.length) hlt (by omega)]
        exact hnext c (by omega) hd2 hc
      have add : ∀ z : Bool, z = false → isNaN s[i] = false → (∀ y ∈ D.take c, y < fkey s[i]) → Ev (fun k => thicketlaw06_OrderSorts.j2 k (v : Int) m s (D.map atBits) (c : Int) (i : Int) z) true := by
        rintro z rfl hn hlow
        obtain ⟨hcl, hck⟩ := next_key hDs.rises c (fkey s[i]) ((hDs.mem _).2 ⟨s[i], List.getElem_mem hlt, hn, rfl⟩) (fun y hy hyx => by
          obtain ⟨b, h5, h6, h7⟩ := (hDs.mem y).1 hy
          obtain ⟨q, hq, rfl⟩ := List.mem_iff_getElem.1 h5
          refine (hd.mem y).2 ⟨s[q], List.mem_take_iff_getElem.2 ⟨q, ?_, rfl⟩, h6, h7⟩
          rcases Nat.lt_or_ge q i with h | h
          · omega
          · have := hget i q hlt hq h; omega) (fun hin => by have := hlow _ hin; omega)
        have hk := hDk D[c] (List.getElem_mem hcl)
        have hat := atBits_lt D[c] hk.1 (by omega)
        have hfa := fkey_at D[c] hk.1 (by omega)
        have hna : isNaN (atBits D[c]) = false := by rw [atBits_nan D[c] hk.1 (by omega)]; exact decide_eq_false (by omega)
        have hd3 : DistinctOf (s.take i ++ [s[i]]) (D.take (c + 1)) := by
          rw [List.take_succ_eq_append_getElem hcl, hck]
          exact dist_new hd hn hlow
        have fin : Ev (fun k => thicketlaw06_OrderSorts.l1 k (v : Int) m s (D.map atBits) (wrap64 ((c : Int) + 1)) (wrap64 ((i : Int) + 1))) true := by
          have := hDs.len
          rw [w1 (n := s.length) hlt (by omega), w1 (n := s.length) (by omega) (by omega)]
          exact hnext (c + 1) (by omega) hd3 (by omega)
        have hrd : rdOf (0 : Nat) (D.map atBits) (c : Int) = atBits D[c] := by rw [rdOf_nat _ c (by rw [List.length_map]; exact hcl), List.getElem_map]
        refine Ev.step (fun k => thicketlaw06_OrderSorts.j2.eq_2 _ m s _ _ _ _ k) (Ev.neg (by decide) (Ev.neg (by rw [List.length_map]; omega) (Ev.pos (by omega) (Ev.pos (by rw [List.length_map]; omega) (Ev.pos (by omega) (Ev.pos (by omega) ?_))))))
        rw [hrd, rdOf_nat s i hlt]
        refine Ev.pos (by rw [feq_k hat hx, hna, hn, hfa, hck]; simp) ?_
        by_cases hz : feq (atBits D[c]) 0 = true
        · refine Ev.pos hz (Ev.bindc (v := false) ?_ (Ev.neg (by decide) fin))
          rw [feq_k hat (by decide)] at hz
          have h0 : fkey 0 = 9218868437227405312 := by decide +kernel
          simp only [Bool.and_eq_true, decide_eq_true_eq] at hz
          have hz2 := hz.2
          rw [hfa, h0] at hz2
          have e0 : atBits D[c] = 0 := by rw [hz2]; decide +kernel
          rw [e0]
          decide +kernel
        · exact Ev.neg hz fin
      refine Ev.step (fun k => thicketlaw06_OrderSorts.l1.eq_2 _ m s _ _ _ k) (Ev.pos (by omega) (Ev.pos (by omega) ?_))
      rw [rdOf_nat s i hlt, feq_self hx]
      by_cases hn : isNaN s[i] = true
      · refine Ev.neg (by rw [hn]; decide) (skip true rfl (dist_nan hd hn))
      · have hn' : isNaN s[i] = false := by simpa using hn
        refine Ev.pos (by rw [hn']; decide) ?_
        by_cases hi0 : i = 0
        · refine Ev.neg (by omega) (add false rfl hn' fun y hy => ?_)
          obtain ⟨b, h5, _⟩ := (hd.mem y).1 hy
          rw [hi0] at h5
          simp at h5
        · obtain ⟨p, rfl⟩ : ∃ p, i = p + 1 := ⟨i - 1, by omega⟩
          have ep : wrap64 (((p + 1 : Nat) : Int) - 1) = (p : Int) := by rw [w64 (by omega) (by omega)]; omega
          have hp := hsw _ (List.getElem_mem (show p < s.length by omega))
          refine Ev.pos (by omega) ?_
          rw [ep]
          refine Ev.pos (by omega) (Ev.pos (by omega) ?_)
          rw [rdOf_nat s p (by omega), feq_k hx hp]
          have hpl := hget p (p + 1) (by omega) hlt (by omega)
          have hnp : isNaN s[p] = false := by
            cases h : isNaN s[p]
            · rfl
            · have h5 := fkey_x h
              have h6 := fkey_le (b := s[p + 1]) hx hn'
              omega
          have hmem : s[p] ∈ s.take (p + 1) := List.mem_take_iff_getElem.2 ⟨p, by omega, rfl⟩
          rw [hn', hnp]
          by_cases e : fkey s[p + 1] = fkey s[p]
          · exact skip _ (by simp [e]) (dist_same hd (by rw [e]; exact (hd.mem _).2 ⟨s[p], hmem, hnp, rfl⟩))
          · refine add _ (by simp [e]) hn' fun y hy => ?_
            obtain ⟨b, h5, h6, h7⟩ := (hd.mem y).1 hy
            obtain ⟨q, hq, rfl⟩ := List.mem_take_iff_getElem.1 h5
            have := hget q p (by omega) (by omega) (by omega)
            omega
  -- the first loop
  have L0 : ∀ n i, 1 ≤ i → i + n = s.length → Ev (fun k => thicketlaw06_OrderSorts.l0 k (v : Int) m s (i : Int)) true := by
    intro n
    induction n with
    | zero =>
      intro i h0 hi
      refine Ev.step (fun k => thicketlaw06_OrderSorts.l0.eq_2 _ m s _ k) (Ev.neg (by omega) (Ev.bindc (v := D.map atBits) ?_ ?_))
      · unfold order_Distinct.f
        rw [if_pos ⟨by omega, hm⟩, hD]
        rfl
      · exact L1 s.length 0 0 (by omega) ⟨List.Pairwise.nil, fun x => by simp, Nat.le_refl _⟩ (Nat.zero_le _)
    | succ n ih =>
      intro i h0 hi
      have hlt : i < s.length := by omega
      obtain ⟨p, rfl⟩ : ∃ p, i = p + 1 := ⟨i - 1, by omega⟩
      have ep : wrap64 (((p + 1 : Nat) : Int) - 1) = (p : Int) := by rw [w64 (by omega) (by omega)]; omega
      refine Ev.step (fun k => thicketlaw06_OrderSorts.l0.eq_2 _ m s _ k) (Ev.pos (by omega) ?_)
      rw [ep]
      have hpl := hget p (p + 1) (by omega) hlt (by omega)
      refine Ev.pos (by omega) (Ev.pos (by omega) (Ev.pos (by omega) (Ev.bindc (v := icmp (fkey s[p]) (fkey s[p + 1])) ?_ (Ev.neg ?_ ?_))))
      · rw [rdOf_nat s p (by omega), rdOf_nat s (p + 1) hlt]; exact compare_f (hsw _ (List.getElem_mem _)) (hsw _ (List.getElem_mem _))
      · unfold icmp
        split
        · omega
        · split <;> omega
      · rw [w1 (n := s.length) hlt (by omega)]; exact ih (p + 1 + 1) (by omega) (by omega)
  refine Ev.rounds ?_
  unfold thicketlaw06_OrderSorts.f
  refine Ev.bindc (v := true) (by decide +kernel) (Ev.pos rfl (Ev.bind (list_ev m (by omega)) (Ev.bindc (v := s) ?_ (Ev.bind (counts_ev hm hsw (by omega) hperm) (Ev.pos rfl ?_)))))
  · unfold order_Sorted.f
    rw [if_pos (by omega), hs]
    rfl
  · by_cases h0 : s.length = 0
    · refine Ev.step (fun k => thicketlaw06_OrderSorts.l0.eq_2 _ m s _ k) (Ev.neg (by omega) (Ev.bindc (v := D.map atBits) ?_ ?_))
      · unfold order_Distinct.f
        rw [if_pos ⟨by omega, hm⟩, hD]
        rfl
      · exact L1 s.length 0 0 (by omega) ⟨List.Pairwise.nil, fun x => by simp, Nat.le_refl _⟩ (Nat.zero_le _)
    · exact L0 (s.length - 1) 1 (by omega) (by omega)
end Go.Proofs.Ytdhiljimmijghaa.Pure
