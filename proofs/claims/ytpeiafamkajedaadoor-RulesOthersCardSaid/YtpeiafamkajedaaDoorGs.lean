/-
  trees.Score, where the ensemble is fine and the ways are known.
-/
import Derived.Test.YtpeiafamkajedaaDoorGw
import Derived.Test.YtpeiafamkajedaaDoorRm
import Derived.Laws.Cover3
namespace Go.Proofs.YtpeiafamkajedaaDoor.FAll
open Go.RowKit Go.Proofs.YtpeiafamkajedaaDoorW.PrintWords Go.Proofs.YtpeiafamkajedaaDoorW.PrintLast Go.Proofs.YtpeiafamkajedaaDoorW.PrintMore
attribute [local go_sem] fstore_walk
set_option linter.unusedVariables false
set_option linter.unusedSimpArgs false
theorem infoI64 : (Tryd.prog.info? 2).map (fun i => (i.zero, i.size, i.bytes)) = some (some (.int .i64 0), 1, 8) := by kernel_rfl
theorem Kd.R_weak {α : Type} {d : Kd α} {e : Nat} {w : World} {b b' : Nat} {ok : Nat → Prop} {v : Value} {xs : List α} (h : Kd.R d e w b ok v xs) (hb : b' ≤ b) (hM : ∀ (ok : Nat → Prop) x cs, d.M w b ok x cs → d.M w b' ok x cs := by intro ok_ x_ cs_ h_; exact h_) : Kd.R d e w b' ok v xs := by
  obtain ⟨h1, inner, ho, hr⟩ := h
  exact ⟨h1, inner, own_weaken ho hb, ⟨hr.1, fun j p hp => hM _ _ _ (hr.2 j p hp)⟩⟩
theorem R_one0 (w : World) (base : Nat) (hb : base ≤ w.heap.size) : Kd.R (Kd.int .i64) 2 (w.alloc (.cells #[] 2)) base (fun _ => True) (.slice (some ⟨w.heap.size, 0, none⟩) 0 0) ([] : List Int) :=
  Kd.R_of_own (own_lit_of (enc := Value.int .i64) w base 2 ([] : List Int) hb (by simp)) (fun _ _ => trivial)
theorem eqlS (u : World) (a : Option Addr) (n c : Nat) : (binOp .eql 23 (.slice a n c) (.slice none 0 0)).run Tryd.prog u = .ok (.bool a.isNone) u := by
  simp only [binOp]
  simp [run_equal_slice_nil u 23 2 a n c Tryd.underlying23]
attribute [local go_sem] eqlS
set_option maxHeartbeats 8000000 in
set_option maxRecDepth 100000 in
theorem clone64.calls (A : Option Addr) (n c : Nat) (l : List Int) (w : World) (hl : Aside0 (Kd.C (Kd.int .i64) w A n l)) (hn : n ≤ 17592186044416 := by first | omega | (simp only [] at *; omega)) :
    Calls Tryd.prog 21 #[.slice A n c] w fun e w' => ∃ v, e = .returned v ∧ Kd.R (Kd.int .i64) 2 w' w.heap.size (fun _ => True) v l ∧ Below w.heap.size w w' := by
  have hn' : l.length = n := (show ReadsRow _ _ _ _ _ _ from hl.out).1
  have HN := Aside0.mk hn
  have LL := Aside0.mk hn'
  clear hn hn'
  cases A with
  | none =>
    have h0 : l = [] := by
      rcases Nat.eq_zero_or_pos n with h | h
      · have := LL.out; exact List.eq_nil_of_length_eq_zero (by omega)
      · obtain ⟨ad, e, _⟩ := (show ReadsRow _ _ _ _ _ _ from hl.out).2.2 h
        cases e
    subst h0
    go_enter Tryd.func21, Tryd.ntmps21
    go_wp2
    go_ret
    exact ⟨_, rfl, Kd.R_nil _ _ _ _ _, Below.refl _ _⟩
  | some ad =>
    go_enter Tryd.func21, Tryd.ntmps21
    go_wp2_with (first | ((with_reducible refine gate_builtin (b := .append) (xs := #[.tmp 5, .tmp 6]) rfl ?_); at_builtin; refine Kd.R_append_rows (Kd.int .i64) (w0 := w) w.heap.size rfl (.tmp 5) (.tmp 6) 23 2 (.int .i64 0) 8 rfl Tryd.underlying23 infoI64 rfl (by decide) (by omega) (.slice (some ⟨w.heap.size, 0, none⟩) 0 0) ([] : List Int) l _ _ _ (fun _ => True) (fun _ => False) rfl rfl (R_one0 w _ (Nat.le_refl _)) (Kd.C_alloc hl.out _) (fun _ _ h => h) (fun _ h => h.elim) (fun _ _ => trivial) (below_alloc (Below.refl _ _) _) (below_size (below_alloc (Below.refl _ _) _)) (by have := HN.out; have := LL.out; simp only [List.length_nil]; omega) ?_; intro v5 w5 R5 hb5 _ _; rw [List.nil_append] at R5; have W5 := Aside0.mk R5; have B5 := Aside0.mk hb5; clear R5 hb5))
    go_ret
    exact ⟨_, rfl, kR W5, kB0 B5⟩
theorem rd_way (ns : List S65) (xs : List Nat) (m : Nat) : rd (wayP ns xs m) ((m : Nat) : Int) = wayI ns xs m := by
  unfold rd wayP
  rw [Int.toNat_natCast, List.getD_eq_getElem?_getD, List.getElem?_map, List.getElem?_range (by omega)]
  rfl
def stepSc (xs : List Nat) (o : List Int) (y : S37) (m : Nat) : List Int := o.set y.f0.toNat (wrap64 (rd o y.f0 + (rd_T65 y.f1 (wayI y.f1 xs m)).f1))
/-- The sums behind the first n trees. -/
def scoreG (ts : List S37) (xs : List Nat) (M : Nat → Nat) (bs : List Int) : Nat → List Int
  | 0 => bs
  | n + 1 => stepSc xs (scoreG ts xs M bs n) (rd_T37 ts (n : Int)) (M n)
theorem scoreG_length (ts : List S37) (xs : List Nat) (M : Nat → Nat) (bs : List Int) : ∀ n, (scoreG ts xs M bs n).length = bs.length := by
  intro n
  induction n with
  | zero => rfl
  | succ n ih => unfold scoreG stepSc; rw [List.length_set, ih]
/-- A right tree, over a vector: its leaf is known. -/
structure TreeGood (y : S37) (outs : Int) (xs : List Nat) (m : Nat) : Prop where
  shape : ∃ k, trees_Shape.f k y.f0 y.f1 = some (0, 0)
  out : 0 ≤ y.f0 ∧ y.f0 < outs
  feats : ∀ j : Nat, j < y.f1.length → innerB (rd_T65 y.f1 (j : Int)) = true → 0 ≤ (rd_T65 y.f1 (j : Int)).f2 ∧ (rd_T65 y.f1 (j : Int)).f2 < (xs.length : Int)
  way : WayOk y.f1 xs m
  few : m ≤ 1000000000
section
variable (nm : ByteArray) (AF : Option Addr) (cF : Nat) (fs : List ByteArray) (outs : Int) (AB : Option Addr) (cB : Nat) (bs : List Int) (AT : Option Addr) (cT : Nat) (ts : List S37) (AX : Option Addr) (cX : Nat) (xs : List Nat)
set_option maxHeartbeats 16000000 in
set_option maxRecDepth 100000 in
theorem trees_Score.calls (M : Nat → Nat) (w : World) (hbs : Aside0 (Kd.C (Kd.int .i64) w AB bs.length bs)) (hts : Aside0 (Kd.C k37 w AT ts.length ts)) (hxs : Aside0 (Kd.f64.C w AX xs.length xs))
    (ho1 : 1 ≤ outs) (ho2 : (bs.length : Int) = outs) (hbl : bs.length ≤ 17592186044416) (hx : xs.length = fs.length) (htl : Aside0 (ts.length ≤ 5000000000000)) (HG : Aside0 (∀ n : Nat, n < ts.length → TreeGood (rd_T37 ts (n : Int)) outs xs (M n))) :
    Calls Tryd.prog 11 #[.agg #[.string nm, .slice AF fs.length cF, .int .i64 outs, .slice AB bs.length cB, .slice AT ts.length cT], .slice AX xs.length cX] w fun e w' => ∃ A c, e = .returned (.tuple #[.slice A bs.length c, .int .i64 0]) ∧ Kd.C (Kd.int .i64) w' A bs.length (scoreG ts xs M bs ts.length) ∧ bs.length ≤ c ∧ Below w.heap.size w w' := by
  have HB := Aside0.mk (Below.refl w.heap.size w)
  have d1 : decide (outs < 1) = false := decide_eq_false (by omega)
  have d2 : ((bs.length : Int) != outs) = false := by simp [ho2]
  have d3 : ((xs.length : Int) != (fs.length : Int)) = false := by simp [hx]
  have BL := Aside0.mk (show 1 ≤ bs.length by omega)
  have OB := Aside0.mk ho2
  have BM := Aside0.mk hbl
  clear ho1 ho2 hx
  go_enter Tryd.func11, Tryd.ntmps11
  go_wp2_with (first | ((with_reducible refine gate_dst (N := 2) rfl ?_); refine box_event ?hg (N := 2) ?hd (cs := #[.string nm, .slice AF fs.length cF, .int .i64 outs, .slice AB bs.length cB, .slice AT ts.length cT]) (t := 26) ?hr ?_; (case hd => rfl); (case hg => rfl); (case hr => first | (go_simp; done) | (go_simp; rfl)); intro ge hg w1 hbox hb; have n0_ := Aside0.mk (below_step (kB0 HB) hb); have Bge := Aside0.mk hbox; clear HB; have HB := n0_; clear n0_ hb hbox hg; have he := blk5 (w := w1) Bge.out) | (go_at_call 21; refine (clone64.calls AB bs.length cB bs _ ⟨Kd.C_below hbs.out (kB0 HB)⟩).mono ?_; rintro e w2 ⟨v, rfl, R, hb⟩; obtain ⟨AO, cO, rfl, _, _⟩ := Kd.R_reads R; have n0_ := Aside0.mk (below_step (kB0 HB) hb); have m0_ := Aside0.mk (blk_below (kb Bge) hb); have HO := Aside0.mk (Kd.R_weak R (below_size HB.out)); clear HB Bge he R hb; have HB := n0_; have Bge := m0_; clear n0_ m0_; have he := blk5 (w := w2) Bge.out))
  obtain ⟨g, cap, eo, gb_, gl_, _⟩ := Kd.R_form HO.out BL.out
  injection eo with ea en ec
  subst ea
  subst ec
  clear en gl_ d1 d2 d3 he hbl
  have GB := Aside0.mk gb_
  clear gb_
  have HO0 := HO
  clear HO
  have HO : Aside0 (Kd.R (Kd.int .i64) 2 w2 w.heap.size (fun _ => True) (.slice (some ⟨g, 0, none⟩) bs.length cO) (scoreG ts xs M bs 0)) := HO0
  clear HO0
  have he := blk5 (w := w2) Bge.out
  go_wp2
  clear he
  go_loopg [36] (ts.length + 1) (fun kq v36 w' => ∃ (z : Int) (n : Nat), v36 = .int .i64 z ∧ Aside0 (z = n) ∧ Aside0 (n ≤ ts.length) ∧ Aside0 (ts.length - n < kq) ∧ Aside0 (w'.heap[ge]? = some (.cells #[.string nm, .slice AF fs.length cF, .int .i64 outs, .slice AB bs.length cB, .slice AT ts.length cT] 26 (0, 0))) ∧ Aside0 (Below w.heap.size w w') ∧ Aside0 (Kd.R (Kd.int .i64) 2 w' w.heap.size (fun _ => True) (.slice (some ⟨g, 0, none⟩) bs.length cO) (scoreG ts xs M bs n)))
  case atStart => exact ⟨0, 0, rfl, ⟨rfl⟩, ⟨Nat.zero_le _⟩, ⟨by omega⟩, ⟨kb Bge⟩, ⟨kB0 HB⟩, ⟨kR HO⟩⟩
  case round =>
    clear HB Bge HO
    obtain ⟨z, n, rfl, hz, hn, hk, Bge, HB, HO⟩ := hrel
    cases gk with
    | zero => exact absurd hk.out (by omega)
    | succ k1 =>
      have hzz := hz.out
      have hnn := hn.out
      by_cases hend : n = ts.length
      · have cnd : decide (z < (ts.length : Int)) = false := decide_eq_false (by omega)
        subst hend
        clear hzz hnn
        go_wp2
        go_ret2
        obtain ⟨A', c', e', l', g'⟩ := Kd.R_reads HO.out
        injection e' with e1 e2 e3
        subst e1
        subst e3
        rw [scoreG_length] at l' g'
        exact ⟨_, _, rfl, g', l', kB0 HB⟩
      · have cnd : decide (z < (ts.length : Int)) = true := decide_eq_true (by omega)
        have p1 : 0 ≤ z := by omega
        have p2 : z < (ts.length : Int) := by omega
        have hlt : n < ts.length := by omega
        obtain ⟨ad, A2, c2, rfl, e0, e1, l2, g2⟩ := at_T37 hts.out z p1 p2
        obtain ⟨⟨k, hks⟩, ⟨o0, o1⟩, hfe, hwy, hfw⟩ := HG.out n hlt
        have hstep : scoreG ts xs M bs (n + 1) = stepSc xs (scoreG ts xs M bs n) (rd_T37 ts (n : Int)) (M n) := rfl
        rw [← hzz] at hks o0 o1 hfe hwy hstep
        obtain ⟨y, hy⟩ : ∃ y, y = rd_T37 ts z := ⟨_, rfl⟩
        rw [← hy] at e0 e1 l2 g2 hks o0 o1 hfe hwy hstep
        replace e0 := (HB.out.cell (World.block_lt_of_cell? w _ e0)).trans e0
        replace e1 := (HB.out.cell (World.block_lt_of_cell? w _ e1)).trans e1
        obtain ⟨hl0, hl1⟩ := hwy.lies (M n) (Nat.le_refl _)
        have G2 := Aside0.mk g2
        have L2 := Aside0.mk l2
        have KS := Aside0.mk hks
        have HF := Aside0.mk hfe
        have HW := Aside0.mk hwy
        have HMB := Aside0.mk hfw
        have HLT := Aside0.mk hlt
        have XN := Aside0.mk hzz
        have ob : y.f0 < (bs.length : Int) := by have := OB.out; omega
        have d4 : decide (y.f0 < 0) = false := decide_eq_false (by omega)
        have d5 : decide (y.f0 ≥ outs) = false := decide_eq_false (by omega)
        have QQ := Aside0.mk (⟨hl0, hl1⟩ : 0 ≤ wayI y.f1 xs (M n) ∧ wayI y.f1 xs (M n) < (y.f1.length : Int))
        have OO := Aside0.mk (⟨o0, ob⟩ : 0 ≤ y.f0 ∧ y.f0 < (bs.length : Int))
        have STEP := Aside0.mk hstep
        replace p1 := eq_true p1
        replace p2 := eq_true p2
        have he := blk5 (w := wr) Bge.out
        clear hzz hnn hend hlt hy g2 l2 hks hfe hwy hfw hl0 hl1 o0 o1 ob hstep
        go_wp2_with (first | (go_at_call 22; refine (trees_Shape.calls k y.f0 A2 c2 y.f1 0 0 _ (Kd.C_below G2.out (below_alloc HB.out _)) L2.out KS.out).mono ?_; rintro e w5 ⟨rfl, hb⟩; have Bt := Aside0.mk (blk_below (blk_new wr (.cells #[.int .i64 y.f0, .slice A2 y.f1.length c2] 37 (0, 0))) hb); have n0_ := Aside0.mk (below_step (below_alloc HB.out _) hb); have m0_ := Aside0.mk (blk_below (blk_alloc Bge.out _) hb); have r0_ := Aside0.mk (Kd.R_below (Kd.R_alloc HO.out _) hb); clear HB Bge HO he e0 e1 hb; have HB := n0_; have Bge := m0_; have HO := r0_; clear n0_ m0_ r0_; have he := blk5 (w := w5) Bge.out; have ht := blk2 (w := w5) Bt.out) | (go_at_call 18; refine (trees_Way.calls y.f0 A2 c2 y.f1 AX cX xs k (M n) _ ⟨Kd.C_below G2.out (kB0 HB)⟩ L2 ⟨Kd.C_below hxs.out (kB0 HB)⟩ KS HF HW HMB).mono ?_; rintro e w6 ⟨AW, cW, rfl, gW, _, hb⟩; have GW := Aside0.mk gW; have n0_ := Aside0.mk (below_step (kB0 HB) hb); have m0_ := Aside0.mk (blk_below (kb Bge) hb); have t0_ := Aside0.mk (blk_below (kb Bt) hb); have r0_ := Aside0.mk (Kd.R_below (kR HO) hb); clear HB Bge Bt HO he ht hb gW; have HB := n0_; have Bge := m0_; have Bt := t0_; have HO := r0_; clear n0_ m0_ t0_ r0_))
        obtain ⟨q, hq⟩ : ∃ q, q = wayI y.f1 xs (M n) := ⟨_, rfl⟩
        have hQ := QQ.out
        rw [← hq] at hQ
        obtain ⟨aw, eaw, ew0⟩ := Kd.at_int GW.out ((M n : Nat) : Int) (by omega) (by omega)
        have ew : w6.cell? (aw.add (M n)) = some (.int .i64 q) := by
          have h := ew0
          rw [rd_way] at h
          rw [hq]
          exact h
        subst eaw
        obtain ⟨an, A4, c4, ean, en0, en, _⟩ := at_T65 G2.out q hQ.1 hQ.2
        subst ean
        obtain ⟨nv, hnv⟩ : ∃ nv, nv = (rd_T65 y.f1 q).f1 := ⟨_, rfl⟩
        rw [← hnv] at en
        replace en := (HB.out.cell (World.block_lt_of_cell? w _ en)).trans en
        obtain ⟨ce, fz⟩ := Kd.R_celln (0 : Int) HO.out y.f0 OO.out.1 OO.out.2
        obtain ⟨ov, hov⟩ : ∃ ov, ov = rdOf (0 : Int) (scoreG ts xs M bs n) y.f0 := ⟨_, rfl⟩
        rw [← hov] at ce
        have hi7 : wrap64 ((M n : Nat) : Int) = ((M n : Nat) : Int) := by have := HMB.out; unfold wrap64; omega
        have p7 : ((0 : Int) ≤ ((M n : Nat) : Int)) = True := eq_true (Int.natCast_nonneg _)
        have q7 : (((M n : Nat) : Int) < ((M n : Nat) : Int) + 1) = True := eq_true (Int.lt_succ _)
        have r1 := eq_true hQ.1
        have r2 := eq_true hQ.2
        have s1 := eq_true OO.out.1
        have s2 := eq_true OO.out.2
        have HST := Aside0.mk (show scoreG ts xs M bs (n + 1) = (scoreG ts xs M bs n).set y.f0.toNat (wrap64 (ov + nv)) by rw [STEP.out, hov, hnv, hq]; rfl)
        clear hq hQ ew0 en0 hnv hov
        refine start_ (n := 19) (S := fun w' => w'.cell? ⟨wr.heap.size, 0, none⟩ = some (.int .i64 y.f0) ∧ w'.cell? ⟨wr.heap.size, 1, none⟩ = some (.slice (some an) y.f1.length c2) ∧ w'.cell? ⟨g, y.f0.toNat, none⟩ = some (.int .i64 ov) ∧ w'.cell? (aw.add (M n)) = some (.int .i64 q) ∧ w'.cell? ⟨(an.add (q.toNat * 8)).block, (an.add (q.toNat * 8)).off + 1, none⟩ = some (.int .i64 nv)) (ds := [18]) #[false, false, false, false, false, false, false, false, false, false, false, false, false, false, false, false, false, false, false] (by kernel_rfl) rfl rfl ⟨((blk_cell (kb Bt) 0).trans rfl), ((blk_cell (kb Bt) 1).trans rfl), ce, ew, en⟩ (fun hHeld => ?_)
        refine pure_ (i := 0) (N := some 67) (v := ?_) (a' := ?_) #[true, false, false, false, false, false, false, false, false, false, false, false, false, false, false, false, false, false, false] rfl rfl (by kernel_rfl) (fun _ _ _ h => h) (Or.inl ⟨by rfl, ?_⟩) ?_ ?_
        rotate_left
        · intro w'
          go_simp
          with_reducible rfl
        rotate_left
        · simp only [Act.put, List.setIfInBounds_toArray, List.set_cons_zero, List.set_cons_succ, i64_w, i32_w]
          rfl
        refine pure_ (i := 1) (N := some 68) (v := ?_) (a' := ?_) #[true, true, false, false, false, false, false, false, false, false, false, false, false, false, false, false, false, false, false] rfl rfl (by kernel_rfl) (fun _ _ _ h => h) (Or.inl ⟨by rfl, ?_⟩) ?_ ?_
        rotate_left
        · intro w'
          go_simp
          with_reducible rfl
        rotate_left
        · simp only [Act.put, List.setIfInBounds_toArray, List.set_cons_zero, List.set_cons_succ, i64_w, i32_w]
          rfl
        refine pure_ (i := 5) (N := some 72) (v := ?_) (a' := ?_) #[true, true, false, false, false, true, false, false, false, false, false, false, false, false, false, false, false, false, false] rfl rfl (by kernel_rfl) (fun _ _ _ h => h) (Or.inl ⟨by rfl, ?_⟩) ?_ ?_
        rotate_left
        · intro w'
          go_simp
          with_reducible rfl
        rotate_left
        · simp only [Act.put, List.setIfInBounds_toArray, List.set_cons_zero, List.set_cons_succ, i64_w, i32_w]
          rfl
        refine pure_ (i := 7) (N := some 74) (v := ?_) (a' := ?_) #[true, true, false, false, false, true, false, true, false, false, false, false, false, false, false, false, false, false, false] rfl rfl (by kernel_rfl) (fun _ _ _ h => h) (Or.inl ⟨by rfl, ?_⟩) ?_ ?_
        rotate_left
        · intro w'
          go_simp
          with_reducible rfl
        rotate_left
        · simp only [Act.put, List.setIfInBounds_toArray, List.set_cons_zero, List.set_cons_succ, i64_w, i32_w]
          rfl
        refine pure_ (i := 8) (N := some 75) (v := ?_) (a' := ?_) #[true, true, false, false, false, true, false, true, true, false, false, false, false, false, false, false, false, false, false] rfl rfl (by kernel_rfl) (fun _ _ _ h => h) (Or.inl ⟨by rfl, ?_⟩) ?_ ?_
        rotate_left
        · intro w'
          go_simp
          with_reducible rfl
        rotate_left
        · simp only [Act.put, List.setIfInBounds_toArray, List.set_cons_zero, List.set_cons_succ, i64_w, i32_w]
          rfl
        refine pure_ (i := 9) (N := some 76) (v := ?_) (a' := ?_) #[true, true, false, false, false, true, false, true, true, true, false, false, false, false, false, false, false, false, false] rfl rfl (by kernel_rfl) (fun _ _ _ h => h) (Or.inl ⟨by rfl, ?_⟩) ?_ ?_
        rotate_left
        · intro w'
          go_simp
          with_reducible rfl
        rotate_left
        · simp only [Act.put, List.setIfInBounds_toArray, List.set_cons_zero, List.set_cons_succ, i64_w, i32_w]
          rfl
        refine pure_ (i := 10) (N := some 77) (v := ?_) (a' := ?_) #[true, true, false, false, false, true, false, true, true, true, true, false, false, false, false, false, false, false, false] rfl rfl (by kernel_rfl) (fun _ _ _ h => h) (Or.inl ⟨by rfl, ?_⟩) ?_ ?_
        rotate_left
        · intro w'
          go_simp
          with_reducible rfl
        rotate_left
        · simp only [Act.put, List.setIfInBounds_toArray, List.set_cons_zero, List.set_cons_succ, i64_w, i32_w]
          rfl
        refine pure_ (i := 11) (N := some 78) (v := ?_) (a' := ?_) #[true, true, false, false, false, true, false, true, true, true, true, true, false, false, false, false, false, false, false] rfl rfl (by kernel_rfl) (fun _ _ _ h => h) (Or.inl ⟨by rfl, ?_⟩) ?_ ?_
        rotate_left
        · intro w'
          go_simp
          with_reducible rfl
        rotate_left
        · simp only [Act.put, List.setIfInBounds_toArray, List.set_cons_zero, List.set_cons_succ, i64_w, i32_w]
          rfl
        refine take_ (i := 2) (N := some 69) (v := ?_) (a' := ?_) #[true, true, true, false, false, true, false, true, true, true, true, true, false, false, false, false, false, false, false] rfl rfl (by kernel_rfl) (fun _ _ _ h => h) (Or.inl ⟨by rfl, ?_⟩) hHeld ?_ ?_
        rotate_left
        · rintro w' ⟨s0, s1, s2, s3, s4⟩
          go_simp
          with_reducible rfl
        rotate_left
        · simp only [Act.put, List.setIfInBounds_toArray, List.set_cons_zero, List.set_cons_succ, i64_w, i32_w]
          rfl
        refine pure_ (i := 3) (N := some 70) (v := ?_) (a' := ?_) #[true, true, true, true, false, true, false, true, true, true, true, true, false, false, false, false, false, false, false] rfl rfl (by kernel_rfl) (fun _ _ _ h => h) (Or.inl ⟨by rfl, ?_⟩) ?_ ?_
        rotate_left
        · intro w'
          go_simp
          with_reducible rfl
        rotate_left
        · simp only [Act.put, List.setIfInBounds_toArray, List.set_cons_zero, List.set_cons_succ, i64_w, i32_w]
          rfl
        refine take_ (i := 4) (N := some 71) (v := ?_) (a' := ?_) #[true, true, true, true, true, true, false, true, true, true, true, true, false, false, false, false, false, false, false] rfl rfl (by kernel_rfl) (fun _ _ _ h => h) (Or.inl ⟨by rfl, ?_⟩) hHeld ?_ ?_
        rotate_left
        · rintro w' ⟨s0, s1, s2, s3, s4⟩
          go_simp
          with_reducible rfl
        rotate_left
        · simp only [Act.put, List.setIfInBounds_toArray, List.set_cons_zero, List.set_cons_succ, i64_w, i32_w]
          rfl
        refine take_ (i := 6) (N := some 73) (v := ?_) (a' := ?_) #[true, true, true, true, true, true, true, true, true, true, true, true, false, false, false, false, false, false, false] rfl rfl (by kernel_rfl) (fun _ _ _ h => h) (Or.inl ⟨by rfl, ?_⟩) hHeld ?_ ?_
        rotate_left
        · rintro w' ⟨s0, s1, s2, s3, s4⟩
          go_simp
          with_reducible rfl
        rotate_left
        · simp only [Act.put, List.setIfInBounds_toArray, List.set_cons_zero, List.set_cons_succ, i64_w, i32_w]
          rfl
        refine take_ (i := 12) (N := some 79) (v := ?_) (a' := ?_) #[true, true, true, true, true, true, true, true, true, true, true, true, true, false, false, false, false, false, false] rfl rfl (by kernel_rfl) (fun _ _ _ h => h) (Or.inl ⟨by rfl, ?_⟩) hHeld ?_ ?_
        rotate_left
        · rintro w' ⟨s0, s1, s2, s3, s4⟩
          go_simp
          with_reducible rfl
        rotate_left
        · simp only [Act.put, List.setIfInBounds_toArray, List.set_cons_zero, List.set_cons_succ, i64_w, i32_w]
          rfl
        refine pure_ (i := 13) (N := some 80) (v := ?_) (a' := ?_) #[true, true, true, true, true, true, true, true, true, true, true, true, true, true, false, false, false, false, false] rfl rfl (by kernel_rfl) (fun _ _ _ h => h) (Or.inl ⟨by rfl, ?_⟩) ?_ ?_
        rotate_left
        · intro w'
          go_simp
          with_reducible rfl
        rotate_left
        · simp only [Act.put, List.setIfInBounds_toArray, List.set_cons_zero, List.set_cons_succ, i64_w, i32_w]
          rfl
        refine pure_ (i := 14) (N := some 81) (v := ?_) (a' := ?_) #[true, true, true, true, true, true, true, true, true, true, true, true, true, true, true, false, false, false, false] rfl rfl (by kernel_rfl) (fun _ _ _ h => h) (Or.inl ⟨by rfl, ?_⟩) ?_ ?_
        rotate_left
        · intro w'
          go_simp
          with_reducible rfl
        rotate_left
        · simp only [Act.put, List.setIfInBounds_toArray, List.set_cons_zero, List.set_cons_succ, i64_w, i32_w]
          rfl
        refine take_ (i := 15) (N := some 82) (v := ?_) (a' := ?_) #[true, true, true, true, true, true, true, true, true, true, true, true, true, true, true, true, false, false, false] rfl rfl (by kernel_rfl) (fun _ _ _ h => h) (Or.inl ⟨by rfl, ?_⟩) hHeld ?_ ?_
        rotate_left
        · rintro w' ⟨s0, s1, s2, s3, s4⟩
          go_simp
          with_reducible rfl
        rotate_left
        · simp only [Act.put, List.setIfInBounds_toArray, List.set_cons_zero, List.set_cons_succ, i64_w, i32_w]
          rfl
        refine pure_ (i := 16) (N := some 83) (v := ?_) (a' := ?_) #[true, true, true, true, true, true, true, true, true, true, true, true, true, true, true, true, true, false, false] rfl rfl (by kernel_rfl) (fun _ _ _ h => h) (Or.inl ⟨by rfl, ?_⟩) ?_ ?_
        rotate_left
        · intro w'
          go_simp
          with_reducible rfl
        rotate_left
        · simp only [Act.put, List.setIfInBounds_toArray, List.set_cons_zero, List.set_cons_succ, i64_w, i32_w]
          rfl
        refine pure_ (i := 17) (N := some 84) (v := ?_) (a' := ?_) #[true, true, true, true, true, true, true, true, true, true, true, true, true, true, true, true, true, true, false] rfl rfl (by kernel_rfl) (fun _ _ _ h => h) (Or.inl ⟨by rfl, ?_⟩) ?_ ?_
        rotate_left
        · intro w'
          go_simp
          with_reducible rfl
        rotate_left
        · simp only [Act.put, List.setIfInBounds_toArray, List.set_cons_zero, List.set_cons_succ, i64_w, i32_w]
          rfl
        refine lastR_ (i := 18) (N := none) #[true, true, true, true, true, true, true, true, true, true, true, true, true, true, true, true, true, true, true] rfl rfl (by kernel_rfl) (by decide) (fun K hK => ?_)
        refine skipR_ (w1 := ?_) (by rfl) rfl ?_ ?_
        rotate_left
        · go_simp
          rfl
        refine hK.out _ _ ?_
        clear hK K
        refine done_ (by kernel_rfl) ?_

        all_goals (
          have RS := Aside0.mk (Kd.R_putg HO.out y.f0 (wrap64 (ov + nv)))
          have HB2 := Aside0.mk (below_set (g := g) (j := y.f0.toNat) (v := .int .i64 (wrap64 (ov + nv))) HB.out (Kd.R_base HO.out g rfl))
          rw [← HST.out] at RS
          have BG2 := Aside0.mk (blk_grown (kb Bge) RS.out.2 (Kd.R_ne HO.out Bge.out (by decide)))
          clear fz ce ew en
          go_wp2
          go_roundg k1
          (case measure => have := hk.out; omega)
          (case rel => exact ⟨_, n + 1, rfl, ⟨by have := XN.out; have := HLT.out; have := htl.out; unfold wrap64; omega⟩, ⟨HLT.out⟩, ⟨by have := hk.out; have := HLT.out; omega⟩, ⟨kb BG2⟩, ⟨by first | exact HB2.out | repeat (first | exact HB2.out | apply pw_below_drewN | apply below_drew1)⟩, ⟨by first | exact RS.out.1 | (with_reducible repeat (first | apply Kd.R_drewN | apply Kd.R_drew)); exact RS.out.1⟩⟩))
end
end Go.Proofs.YtpeiafamkajedaaDoor.FAll
