/-
  slices.breakPatternsOrdered at []uint64: the row is a permutation of what it was.
-/
import Derived.Test.YtdhiljimmijghaaSl
namespace Go.Proofs.Ytdhiljimmijghaa.FAll
open Go.RowKit Go.Sort Go.Proofs.YtdhiljimmijghaaW.PrintWords Go.Proofs.YtdhiljimmijghaaW.PrintLast Go.Proofs.YtdhiljimmijghaaW.PrintMore
set_option linter.unusedVariables false
set_option linter.unusedSimpArgs false
theorem srt_box {w W W' : World} {g gx : Nat} {tl : List Value} {d : Array Int} (h : Srt w g tl d W) (hgx : w.heap.size ≤ gx) (hg : g < w.heap.size) (hgr : W.grownBy W' (some gx)) : Srt w g tl d W' :=
  ⟨blk_grown h.row hgr (fun e => by injection e with e; omega), ⟨hgr.os.trans h.grown.os, hgr.tape.trans h.grown.tape, hgr.output.trans h.grown.output, Nat.le_trans h.grown.size hgr.size, fun k hk hne => (hgr.block k (Nat.lt_of_lt_of_le hk h.grown.size) (fun e => by injection e with e; omega)).trans (h.grown.block k hk hne)⟩⟩
set_option maxHeartbeats 16000000 in
set_option maxRecDepth 100000 in
theorem breakPatterns64.calls (w : World) (g cap : Nat) (tl : List Value) (d : Array Int) (a b : Nat) (az bz : Int) (haz : Aside0 (az = a)) (hbz : Aside0 (bz = b)) (hR : Aside0 (Srt w g tl d w)) (hbd : Aside0 (b ≤ d.size)) (h8 : Aside0 (8 ≤ b - a)) (hsz : Aside0 (d.size ≤ 1152921504606846976)) :
    Calls Try.prog 41 #[.slice (some ⟨g, 0, none⟩) d.size cap, .int .i64 az, .int .i64 bz] w fun e w' => ∃ d', e = .returned (.tuple #[]) ∧ PermIn a b d d' ∧ d'.size = d.size ∧ Srt w g tl d' w' := by
  have G0 := Aside0.mk hR.out.lt
  have ha_ := haz.out
  have hb_ := hbz.out
  have hl_ := h8.out
  have hm_ := hbd.out
  have hs_ := hsz.out
  obtain ⟨q, hq⟩ : ∃ q : Nat, q = (b - a) / 4 := ⟨_, rfl⟩
  have QN := Aside0.mk (show 4 * q ≤ b - a ∧ b - a < 4 * q + 4 ∧ 2 ≤ q by omega)
  have hqn := QN.out
  obtain ⟨lz, hlz⟩ : ∃ lz : Int, lz = bz - az := ⟨_, rfl⟩
  obtain ⟨qz, hqz⟩ : ∃ qz : Int, qz = (q : Int) := ⟨_, rfl⟩
  have LZ := Aside0.mk (show lz = ((b - a : Nat) : Int) by omega)
  have wl_ : wrap64 (bz - az) = lz := by unfold wrap64; omega
  have wu_ : IntKind.u64.wrap lz = lz := by rw [IntKind.wrap_u64]; omega
  have c8_ : decide (lz ≥ 8) = true := decide_eq_true (by omega)
  have wt_ : Int.tdiv lz 4 = qz := by rw [LZ.out, hqz, hq]; rfl
  have wq_ : wrap64 qz = qz := by unfold wrap64; omega
  obtain ⟨q2, hq2⟩ : ∃ q2 : Int, q2 = qz * 2 := ⟨_, rfl⟩
  have w2_ : wrap64 (qz * 2) = q2 := by unfold wrap64; omega
  obtain ⟨t0, ht0⟩ : ∃ t0 : Int, t0 = az + q2 := ⟨_, rfl⟩
  obtain ⟨ix, hix⟩ : ∃ ix : Int, ix = t0 - 1 := ⟨_, rfl⟩
  obtain ⟨mx, hmx⟩ : ∃ mx : Int, mx = t0 + 1 := ⟨_, rfl⟩
  have wt0_ : wrap64 (az + q2) = t0 := by unfold wrap64; omega
  have wix_ : wrap64 (t0 - 1) = ix := by unfold wrap64; omega
  have wmx_ : wrap64 (t0 + 1) = mx := by unfold wrap64; omega
  have IX := Aside0.mk (show ix = ((a + 2 * q - 1 : Nat) : Int) by omega)
  have MX := Aside0.mk (show mx = ((a + 2 * q + 1 : Nat) : Int) by omega)
  clear ha_ hb_ hl_ hm_ hs_ hq hqn hlz hqz hq2 ht0 hix hmx
  go_enter Try.func41, Try.ntmps41
  go_wp2_with (first | ((with_reducible refine gate_dst (N := 7) rfl ?_); refine box_event ?hg (N := 7) ?hd (cs := #[.int .u64 0]) (t := 75) ?hr ?_; (case hd => rfl); (case hg => rfl); (case hr => first | (go_simp; done) | (go_simp; rfl)); intro gx hg w1 hbox hb; have GX := Aside0.mk (show w.heap.size ≤ gx by rw [hg]; exact Nat.le_refl _); have SR := Aside0.mk (hR.out.below hb); have BX := Aside0.mk hbox; have hbx := blk_one hbox; clear hbox hb hg) | (go_at_call 52; have S2_ := Aside0.mk (srt_box SR.out GX.out G0.out (grown_set w1 gx 0 (.int .u64 lz))); have B2_ := Aside0.mk (show (w1.setCell ⟨gx, 0, none⟩ (.int .u64 lz)).heap[gx]? = some (.cells #[.int .u64 lz] 75 (0, 0)) from blk_put BX.out 0 _ rfl); refine (nextPow.calls _ (b - a) lz LZ ⟨by have := h8.out; have := hbd.out; have := hsz.out; omega⟩).mono ?_; rintro e w3 ⟨⟨m, rfl, hm1, hm2⟩, hb⟩; obtain ⟨mz, hmz⟩ : ∃ mz : Int, mz = (m : Int) := ⟨_, rfl⟩; rw [← hmz]; have MB := Aside0.mk (⟨hmz, hm1, hm2⟩ : mz = (m : Int) ∧ 1 ≤ m ∧ m ≤ 2 * (b - a)); obtain ⟨m1, hm_⟩ : ∃ m1 : Int, m1 = ((m - 1 : Nat) : Int) := ⟨_, rfl⟩; have M1 := Aside0.mk hm_; have wm1_ : IntKind.u64.wrap (mz - 1) = m1 := (by have := h8.out; have := hbd.out; have := hsz.out; rw [IntKind.wrap_u64]; omega); have S3 := Aside0.mk (S2_.out.below hb); have B3 := Aside0.mk (blk_below B2_.out hb); clear hb hmz hm1 hm2 hm_ S2_ B2_ SR BX hbx))
  simp only [wl_, wt_, wq_, w2_, wt0_, wix_]
  go_loopg [9] 5 (fun kq v9 w' => ∃ (z : Int) (i : Nat) (dj : Array Int) (v : Int), v9 = .int .i64 z ∧ Aside0 (z = i) ∧ Aside0 (a + 2 * q - 1 ≤ i ∧ i ≤ a + 2 * q + 2) ∧ Aside0 (a + 2 * q + 2 - i < kq) ∧ Aside0 (PermIn a b d dj) ∧ Aside0 (dj.size = d.size) ∧ Aside0 (Srt w g tl dj w') ∧ Aside0 (w'.heap[gx]? = some (.cells #[.int .u64 v] 75 (0, 0))))
  case atStart => exact ⟨_, a + 2 * q - 1, d, _, rfl, IX, ⟨by omega⟩, ⟨by have := QN.out; omega⟩, ⟨permIn_refl _ _ _⟩, ⟨rfl⟩, S3, B3⟩
  case round =>
    clear S3 B3
    obtain ⟨z, i, dj, v, rfl, hz, hi, hk, HP, HD, SR, BX⟩ := hrel
    cases gk with
    | zero => exact absurd hk.out (by omega)
    | succ k1 =>
      by_cases hle : i ≤ a + 2 * q + 1
      · have cnd : decide (z ≤ mx) = true := decide_eq_true (by have := hz.out; have := MX.out; omega)
        have h1_ := hz.out
        have h2_ := hi.out
        have h3_ := QN.out
        have h4_ := hbd.out
        have h5_ := hsz.out
        have h6_ := h8.out
        have wz_ : wrap64 (z + 1) = z + 1 := by unfold wrap64; omega
        have P_z := Aside0.mk (⟨by omega, by omega⟩ : z.toNat = i ∧ i < d.size)
        have n1_z := eq_true (show 0 ≤ z by omega)
        have n2_z := eq_true (show z < (d.size : Int) by omega)
        have IB := Aside0.mk (show a ≤ i ∧ i < b ∧ i ≤ a + 2 * q + 1 by omega)
        clear h1_ h2_ h3_ h4_ h5_ h6_ hle
        go_wp2_with (first | (go_at_call 53; refine (xorNext.calls _ gx v BX).mono ?_; rintro e w5 ⟨r, v', rfl, hb_, hg_⟩; obtain ⟨o, ho⟩ : ∃ o : Int, bits .and .u64 r m1 = o := ⟨_, rfl⟩; have O := Aside0.mk (show 0 ≤ o ∧ o < 2 * (lz : Int) by have h_ := and_le64 r (m - 1) (by have := MB.out; have := hbd.out; have := hsz.out; omega); rw [← M1.out, ho] at h_; have := MB.out; have := LZ.out; have := M1.out; omega); obtain ⟨o2, ho2⟩ : ∃ o2 : Int, o2 = o - lz := ⟨_, rfl⟩; obtain ⟨p1, hp1⟩ : ∃ p1 : Int, p1 = az + o := ⟨_, rfl⟩; obtain ⟨p2, hp2⟩ : ∃ p2 : Int, p2 = az + o2 := ⟨_, rfl⟩; have OE := Aside0.mk (⟨ho2, hp1, hp2⟩ : o2 = o - lz ∧ p1 = az + o ∧ p2 = az + o2); have wo1_ : wrap64 o = o := (by have := O.out; have := LZ.out; have := hbd.out; have := hsz.out; unfold wrap64; omega); have wo2_ : wrap64 (o - lz) = o2 := (by have := O.out; have := LZ.out; have := hbd.out; have := hsz.out; unfold wrap64; omega); have wo3_ : wrap64 (az + o) = p1 := (by have := O.out; have := LZ.out; have := haz.out; have := hbd.out; have := hsz.out; unfold wrap64; omega); have wo4_ : wrap64 (az + o2) = p2 := (by have := O.out; have := LZ.out; have := haz.out; have := hbd.out; have := hsz.out; unfold wrap64; omega); have S5 := Aside0.mk (srt_box SR.out GX.out G0.out hg_); have B5 := Aside0.mk hb_; clear hb_ hg_ ho2 hp1 hp2 SR BX; have SR := S5; clear S5))
        · rename_i hc_
          have h1_ := O.out
          have h2_ := OE.out
          have h3_ := LZ.out
          have h4_ := haz.out
          have h5_ := hbd.out
          obtain ⟨on, hon⟩ : ∃ on : Nat, on = o2.toNat := ⟨_, rfl⟩
          have ON := Aside0.mk (show a + on < b by omega)
          have P_p2 := Aside0.mk (⟨by omega, by omega⟩ : p2.toNat = a + on ∧ a + on < d.size)
          have n1_p2 := eq_true (show 0 ≤ p2 by omega)
          have n2_p2 := eq_true (show p2 < (d.size : Int) by omega)
          clear h1_ h2_ h3_ h4_ h5_ hon hc_
          obtain ⟨xi, hxi⟩ : ∃ xi, xi = dj[i]! := ⟨_, rfl⟩
          have X_xi := Aside0.mk hxi
          clear hxi
          have C_xi := Aside0.mk (show w5.drew.cell? ⟨g, z.toNat, none⟩ = some (.int .u64 xi) by rw [P_z.out.1, X_xi.out]; exact SR.out.drew.cell (i) (by rw [HD.out]; exact P_z.out.2))
          obtain ⟨xo, hxo⟩ : ∃ xo, xo = dj[a + on]! := ⟨_, rfl⟩
          have X_xo := Aside0.mk hxo
          clear hxo
          have C_xo := Aside0.mk (show w5.drew.cell? ⟨g, p2.toNat, none⟩ = some (.int .u64 xo) by rw [P_p2.out.1, X_xo.out]; exact SR.out.drew.cell (a + on) (by rw [HD.out]; exact P_p2.out.2))
          have B6 := Aside0.mk (blk_drew (blk_far (p := ⟨g, p2.toNat, none⟩) (blk_far (p := ⟨g, z.toNat, none⟩) B5.out (fun e_ => by have h1_ := G0.out; have h2_ := GX.out; simp only [] at e_; omega) (.int .u64 xo)) (fun e_ => by have h1_ := G0.out; have h2_ := GX.out; simp only [] at e_; omega) (.int .u64 xi)))
          have fz1_ := SR.out.frozen z.toNat
          have fz2_ := SR.out.frozen p2.toNat
          have s2_ := SR.out.set z.toNat (by rw [P_z.out.1, HD.out]; exact P_z.out.2) xo
          have f2_ := s2_.frozen p2.toNat
          have c2_ := s2_.cell p2.toNat (by rw [Array.size_setIfInBounds, HD.out, P_p2.out.1]; exact P_p2.out.2)
          clear s2_
          go_wp2
          refine start_ (n := 20) (S := fun w' => w'.cell? ⟨g, z.toNat, none⟩ = some (.int .u64 xi) ∧ w'.cell? ⟨g, p2.toNat, none⟩ = some (.int .u64 xo)) (ds := [17, 19]) #[false, false, false, false, false, false, false, false, false, false, false, false, false, false, false, false, false, false, false, false] (by kernel_rfl) rfl rfl ⟨C_xi.out, C_xo.out⟩ (fun hHeld => ?_)
          refine pure_ (i := 0) (N := some 47) (v := ?_) (a' := ?_) #[true, false, false, false, false, false, false, false, false, false, false, false, false, false, false, false, false, false, false, false] rfl rfl (by kernel_rfl) (fun _ _ _ h => h) (Or.inl ⟨by rfl, ?_⟩) ?_ ?_
          rotate_left
          · intro w'
            go_simp
            with_reducible rfl
          rotate_left
          · simp only [Act.put, List.setIfInBounds_toArray, List.set_cons_zero, List.set_cons_succ, i64_w, i32_w]
            rfl
          refine pure_ (i := 1) (N := some 48) (v := ?_) (a' := ?_) #[true, true, false, false, false, false, false, false, false, false, false, false, false, false, false, false, false, false, false, false] rfl rfl (by kernel_rfl) (fun _ _ _ h => h) (Or.inl ⟨by rfl, ?_⟩) ?_ ?_
          rotate_left
          · intro w'
            go_simp
            with_reducible rfl
          rotate_left
          · simp only [Act.put, List.setIfInBounds_toArray, List.set_cons_zero, List.set_cons_succ, i64_w, i32_w]
            rfl
          refine pure_ (i := 2) (N := some 49) (v := ?_) (a' := ?_) #[true, true, true, false, false, false, false, false, false, false, false, false, false, false, false, false, false, false, false, false] rfl rfl (by kernel_rfl) (fun _ _ _ h => h) (Or.inl ⟨by rfl, ?_⟩) ?_ ?_
          rotate_left
          · intro w'
            go_simp
            with_reducible rfl
          rotate_left
          · simp only [Act.put, List.setIfInBounds_toArray, List.set_cons_zero, List.set_cons_succ, i64_w, i32_w]
            rfl
          refine pure_ (i := 3) (N := some 50) (v := ?_) (a' := ?_) #[true, true, true, true, false, false, false, false, false, false, false, false, false, false, false, false, false, false, false, false] rfl rfl (by kernel_rfl) (fun _ _ _ h => h) (Or.inl ⟨by rfl, ?_⟩) ?_ ?_
          rotate_left
          · intro w'
            go_simp
            with_reducible rfl
          rotate_left
          · simp only [Act.put, List.setIfInBounds_toArray, List.set_cons_zero, List.set_cons_succ, i64_w, i32_w]
            rfl
          refine pure_ (i := 4) (N := some 51) (v := ?_) (a' := ?_) #[true, true, true, true, true, false, false, false, false, false, false, false, false, false, false, false, false, false, false, false] rfl rfl (by kernel_rfl) (fun _ _ _ h => h) (Or.inl ⟨by rfl, ?_⟩) ?_ ?_
          rotate_left
          · intro w'
            go_simp
            with_reducible rfl
          rotate_left
          · simp only [Act.put, List.setIfInBounds_toArray, List.set_cons_zero, List.set_cons_succ, i64_w, i32_w]
            rfl
          refine pure_ (i := 5) (N := some 52) (v := ?_) (a' := ?_) #[true, true, true, true, true, true, false, false, false, false, false, false, false, false, false, false, false, false, false, false] rfl rfl (by kernel_rfl) (fun _ _ _ h => h) (Or.inl ⟨by rfl, ?_⟩) ?_ ?_
          rotate_left
          · intro w'
            go_simp
            with_reducible rfl
          rotate_left
          · simp only [Act.put, List.setIfInBounds_toArray, List.set_cons_zero, List.set_cons_succ, i64_w, i32_w]
            rfl
          refine pure_ (i := 6) (N := some 53) (v := ?_) (a' := ?_) #[true, true, true, true, true, true, true, false, false, false, false, false, false, false, false, false, false, false, false, false] rfl rfl (by kernel_rfl) (fun _ _ _ h => h) (Or.inl ⟨by rfl, ?_⟩) ?_ ?_
          rotate_left
          · intro w'
            go_simp
            with_reducible rfl
          rotate_left
          · simp only [Act.put, List.setIfInBounds_toArray, List.set_cons_zero, List.set_cons_succ, i64_w, i32_w]
            rfl
          refine pure_ (i := 7) (N := some 54) (v := ?_) (a' := ?_) #[true, true, true, true, true, true, true, true, false, false, false, false, false, false, false, false, false, false, false, false] rfl rfl (by kernel_rfl) (fun _ _ _ h => h) (Or.inl ⟨by rfl, ?_⟩) ?_ ?_
          rotate_left
          · intro w'
            go_simp
            with_reducible rfl
          rotate_left
          · simp only [Act.put, List.setIfInBounds_toArray, List.set_cons_zero, List.set_cons_succ, i64_w, i32_w]
            rfl
          refine pure_ (i := 8) (N := some 55) (v := ?_) (a' := ?_) #[true, true, true, true, true, true, true, true, true, false, false, false, false, false, false, false, false, false, false, false] rfl rfl (by kernel_rfl) (fun _ _ _ h => h) (Or.inl ⟨by rfl, ?_⟩) ?_ ?_
          rotate_left
          · intro w'
            go_simp
            with_reducible rfl
          rotate_left
          · simp only [Act.put, List.setIfInBounds_toArray, List.set_cons_zero, List.set_cons_succ, i64_w, i32_w]
            rfl
          refine pure_ (i := 9) (N := some 56) (v := ?_) (a' := ?_) #[true, true, true, true, true, true, true, true, true, true, false, false, false, false, false, false, false, false, false, false] rfl rfl (by kernel_rfl) (fun _ _ _ h => h) (Or.inl ⟨by rfl, ?_⟩) ?_ ?_
          rotate_left
          · intro w'
            go_simp
            with_reducible rfl
          rotate_left
          · simp only [Act.put, List.setIfInBounds_toArray, List.set_cons_zero, List.set_cons_succ, i64_w, i32_w]
            rfl
          refine pure_ (i := 10) (N := some 57) (v := ?_) (a' := ?_) #[true, true, true, true, true, true, true, true, true, true, true, false, false, false, false, false, false, false, false, false] rfl rfl (by kernel_rfl) (fun _ _ _ h => h) (Or.inl ⟨by rfl, ?_⟩) ?_ ?_
          rotate_left
          · intro w'
            go_simp
            with_reducible rfl
          rotate_left
          · simp only [Act.put, List.setIfInBounds_toArray, List.set_cons_zero, List.set_cons_succ, i64_w, i32_w]
            rfl
          refine pure_ (i := 12) (N := some 59) (v := ?_) (a' := ?_) #[true, true, true, true, true, true, true, true, true, true, true, false, true, false, false, false, false, false, false, false] rfl rfl (by kernel_rfl) (fun _ _ _ h => h) (Or.inl ⟨by rfl, ?_⟩) ?_ ?_
          rotate_left
          · intro w'
            go_simp
            with_reducible rfl
          rotate_left
          · simp only [Act.put, List.setIfInBounds_toArray, List.set_cons_zero, List.set_cons_succ, i64_w, i32_w]
            rfl
          refine pure_ (i := 13) (N := some 60) (v := ?_) (a' := ?_) #[true, true, true, true, true, true, true, true, true, true, true, false, true, true, false, false, false, false, false, false] rfl rfl (by kernel_rfl) (fun _ _ _ h => h) (Or.inl ⟨by rfl, ?_⟩) ?_ ?_
          rotate_left
          · intro w'
            go_simp
            with_reducible rfl
          rotate_left
          · simp only [Act.put, List.setIfInBounds_toArray, List.set_cons_zero, List.set_cons_succ, i64_w, i32_w]
            rfl
          refine pure_ (i := 14) (N := some 61) (v := ?_) (a' := ?_) #[true, true, true, true, true, true, true, true, true, true, true, false, true, true, true, false, false, false, false, false] rfl rfl (by kernel_rfl) (fun _ _ _ h => h) (Or.inl ⟨by rfl, ?_⟩) ?_ ?_
          rotate_left
          · intro w'
            go_simp
            with_reducible rfl
          rotate_left
          · simp only [Act.put, List.setIfInBounds_toArray, List.set_cons_zero, List.set_cons_succ, i64_w, i32_w]
            rfl
          refine take_ (i := 11) (N := some 58) (v := ?_) (a' := ?_) #[true, true, true, true, true, true, true, true, true, true, true, true, true, true, true, false, false, false, false, false] rfl rfl (by kernel_rfl) (fun _ _ _ h => h) (Or.inl ⟨by rfl, ?_⟩) hHeld ?_ ?_
          rotate_left
          · rintro w' ⟨s0, s1⟩
            go_simp
            with_reducible rfl
          rotate_left
          · simp only [Act.put, List.setIfInBounds_toArray, List.set_cons_zero, List.set_cons_succ, i64_w, i32_w]
            rfl
          refine take_ (i := 15) (N := some 62) (v := ?_) (a' := ?_) #[true, true, true, true, true, true, true, true, true, true, true, true, true, true, true, true, false, false, false, false] rfl rfl (by kernel_rfl) (fun _ _ _ h => h) (Or.inl ⟨by rfl, ?_⟩) hHeld ?_ ?_
          rotate_left
          · rintro w' ⟨s0, s1⟩
            go_simp
            with_reducible rfl
          rotate_left
          · simp only [Act.put, List.setIfInBounds_toArray, List.set_cons_zero, List.set_cons_succ, i64_w, i32_w]
            rfl
          refine pure_ (i := 16) (N := some 63) (v := ?_) (a' := ?_) #[true, true, true, true, true, true, true, true, true, true, true, true, true, true, true, true, true, false, false, false] rfl rfl (by kernel_rfl) (fun _ _ _ h => h) (Or.inl ⟨by rfl, ?_⟩) ?_ ?_
          rotate_left
          · intro w'
            go_simp
            with_reducible rfl
          rotate_left
          · simp only [Act.put, List.setIfInBounds_toArray, List.set_cons_zero, List.set_cons_succ, i64_w, i32_w]
            rfl
          refine last_ (i := 17) (N := none) #[true, true, true, true, true, true, true, true, true, true, true, true, true, true, true, true, true, true, false, false] rfl rfl (by kernel_rfl) (by decide) (fun K hK => ?_)
          refine skip_ (w1 := ?_) (by rfl) rfl ?_ ?_
          rotate_left
          · go_simp
            rfl
          refine hK.out _ _ ?_
          clear hK K
          refine pure_ (i := 18) (N := some 64) (v := ?_) (a' := ?_) #[true, true, true, true, true, true, true, true, true, true, true, true, true, true, true, true, true, true, true, false] rfl rfl (by kernel_rfl) (fun _ _ _ h => h) (Or.inl ⟨by rfl, ?_⟩) ?_ ?_
          rotate_left
          · intro w'
            go_simp
            with_reducible rfl
          rotate_left
          · simp only [Act.put, List.setIfInBounds_toArray, List.set_cons_zero, List.set_cons_succ, i64_w, i32_w]
            rfl
          refine last_ (i := 19) (N := none) #[true, true, true, true, true, true, true, true, true, true, true, true, true, true, true, true, true, true, true, true] rfl rfl (by kernel_rfl) (by decide) (fun K hK => ?_)
          refine skip_ (w1 := ?_) (by rfl) rfl ?_ ?_
          rotate_left
          · go_simp
            rfl
          refine hK.out _ _ ?_
          clear hK K
          refine done_ (by kernel_rfl) ?_
          have SW_ := Aside0.mk (show Srt w g tl (swp dj (i) (a + on)) ((w5.setCell ⟨g, z.toNat, none⟩ (.int .u64 xo)).setCell ⟨g, p2.toNat, none⟩ (.int .u64 xi)).drew by rw [P_z.out.1, P_p2.out.1, X_xi.out, X_xo.out]; exact (SR.out.swp (i) (a + on) (by rw [HD.out]; exact P_z.out.2) (by rw [HD.out]; exact P_p2.out.2)).drew)
          clear SR fz1_ fz2_ f2_ c2_ C_xi C_xo
          have SR := SW_
          clear SW_
          go_wp2
          go_roundg k1
          case measure => exact Nat.lt_succ_self _
          case rel => exact ⟨_, i + 1, swp dj i (a + on), _, rfl, ⟨by have := hz.out; omega⟩, ⟨by have := hi.out; have := IB.out; omega⟩, ⟨by have := hk.out; have := IB.out; omega⟩, ⟨permIn_trans _ _ _ _ _ HP.out (swp_permIn dj a b i (a + on) IB.out.1 IB.out.2.1 (by omega) ON.out (by rw [HD.out]; exact hbd.out))⟩, ⟨(swp_size _ _ _).trans HD.out⟩, SR, B6⟩
        · rename_i hc_
          have h1_ := O.out
          have h2_ := OE.out
          have h3_ := LZ.out
          have h4_ := haz.out
          have h5_ := hbd.out
          obtain ⟨on, hon⟩ : ∃ on : Nat, on = o.toNat := ⟨_, rfl⟩
          have ON := Aside0.mk (show a + on < b by omega)
          have P_p1 := Aside0.mk (⟨by omega, by omega⟩ : p1.toNat = a + on ∧ a + on < d.size)
          have n1_p1 := eq_true (show 0 ≤ p1 by omega)
          have n2_p1 := eq_true (show p1 < (d.size : Int) by omega)
          clear h1_ h2_ h3_ h4_ h5_ hon hc_
          obtain ⟨xi, hxi⟩ : ∃ xi, xi = dj[i]! := ⟨_, rfl⟩
          have X_xi := Aside0.mk hxi
          clear hxi
          have C_xi := Aside0.mk (show w5.drew.cell? ⟨g, z.toNat, none⟩ = some (.int .u64 xi) by rw [P_z.out.1, X_xi.out]; exact SR.out.drew.cell (i) (by rw [HD.out]; exact P_z.out.2))
          obtain ⟨xo, hxo⟩ : ∃ xo, xo = dj[a + on]! := ⟨_, rfl⟩
          have X_xo := Aside0.mk hxo
          clear hxo
          have C_xo := Aside0.mk (show w5.drew.cell? ⟨g, p1.toNat, none⟩ = some (.int .u64 xo) by rw [P_p1.out.1, X_xo.out]; exact SR.out.drew.cell (a + on) (by rw [HD.out]; exact P_p1.out.2))
          have B6 := Aside0.mk (blk_drew (blk_far (p := ⟨g, p1.toNat, none⟩) (blk_far (p := ⟨g, z.toNat, none⟩) B5.out (fun e_ => by have h1_ := G0.out; have h2_ := GX.out; simp only [] at e_; omega) (.int .u64 xo)) (fun e_ => by have h1_ := G0.out; have h2_ := GX.out; simp only [] at e_; omega) (.int .u64 xi)))
          have fz1_ := SR.out.frozen z.toNat
          have fz2_ := SR.out.frozen p1.toNat
          have s2_ := SR.out.set z.toNat (by rw [P_z.out.1, HD.out]; exact P_z.out.2) xo
          have f2_ := s2_.frozen p1.toNat
          have c2_ := s2_.cell p1.toNat (by rw [Array.size_setIfInBounds, HD.out, P_p1.out.1]; exact P_p1.out.2)
          clear s2_
          go_wp2
          refine start_ (n := 20) (S := fun w' => w'.cell? ⟨g, z.toNat, none⟩ = some (.int .u64 xi) ∧ w'.cell? ⟨g, p1.toNat, none⟩ = some (.int .u64 xo)) (ds := [17, 19]) #[false, false, false, false, false, false, false, false, false, false, false, false, false, false, false, false, false, false, false, false] (by kernel_rfl) rfl rfl ⟨C_xi.out, C_xo.out⟩ (fun hHeld => ?_)
          refine pure_ (i := 0) (N := some 47) (v := ?_) (a' := ?_) #[true, false, false, false, false, false, false, false, false, false, false, false, false, false, false, false, false, false, false, false] rfl rfl (by kernel_rfl) (fun _ _ _ h => h) (Or.inl ⟨by rfl, ?_⟩) ?_ ?_
          rotate_left
          · intro w'
            go_simp
            with_reducible rfl
          rotate_left
          · simp only [Act.put, List.setIfInBounds_toArray, List.set_cons_zero, List.set_cons_succ, i64_w, i32_w]
            rfl
          refine pure_ (i := 1) (N := some 48) (v := ?_) (a' := ?_) #[true, true, false, false, false, false, false, false, false, false, false, false, false, false, false, false, false, false, false, false] rfl rfl (by kernel_rfl) (fun _ _ _ h => h) (Or.inl ⟨by rfl, ?_⟩) ?_ ?_
          rotate_left
          · intro w'
            go_simp
            with_reducible rfl
          rotate_left
          · simp only [Act.put, List.setIfInBounds_toArray, List.set_cons_zero, List.set_cons_succ, i64_w, i32_w]
            rfl
          refine pure_ (i := 2) (N := some 49) (v := ?_) (a' := ?_) #[true, true, true, false, false, false, false, false, false, false, false, false, false, false, false, false, false, false, false, false] rfl rfl (by kernel_rfl) (fun _ _ _ h => h) (Or.inl ⟨by rfl, ?_⟩) ?_ ?_
          rotate_left
          · intro w'
            go_simp
            with_reducible rfl
          rotate_left
          · simp only [Act.put, List.setIfInBounds_toArray, List.set_cons_zero, List.set_cons_succ, i64_w, i32_w]
            rfl
          refine pure_ (i := 3) (N := some 50) (v := ?_) (a' := ?_) #[true, true, true, true, false, false, false, false, false, false, false, false, false, false, false, false, false, false, false, false] rfl rfl (by kernel_rfl) (fun _ _ _ h => h) (Or.inl ⟨by rfl, ?_⟩) ?_ ?_
          rotate_left
          · intro w'
            go_simp
            with_reducible rfl
          rotate_left
          · simp only [Act.put, List.setIfInBounds_toArray, List.set_cons_zero, List.set_cons_succ, i64_w, i32_w]
            rfl
          refine pure_ (i := 4) (N := some 51) (v := ?_) (a' := ?_) #[true, true, true, true, true, false, false, false, false, false, false, false, false, false, false, false, false, false, false, false] rfl rfl (by kernel_rfl) (fun _ _ _ h => h) (Or.inl ⟨by rfl, ?_⟩) ?_ ?_
          rotate_left
          · intro w'
            go_simp
            with_reducible rfl
          rotate_left
          · simp only [Act.put, List.setIfInBounds_toArray, List.set_cons_zero, List.set_cons_succ, i64_w, i32_w]
            rfl
          refine pure_ (i := 5) (N := some 52) (v := ?_) (a' := ?_) #[true, true, true, true, true, true, false, false, false, false, false, false, false, false, false, false, false, false, false, false] rfl rfl (by kernel_rfl) (fun _ _ _ h => h) (Or.inl ⟨by rfl, ?_⟩) ?_ ?_
          rotate_left
          · intro w'
            go_simp
            with_reducible rfl
          rotate_left
          · simp only [Act.put, List.setIfInBounds_toArray, List.set_cons_zero, List.set_cons_succ, i64_w, i32_w]
            rfl
          refine pure_ (i := 6) (N := some 53) (v := ?_) (a' := ?_) #[true, true, true, true, true, true, true, false, false, false, false, false, false, false, false, false, false, false, false, false] rfl rfl (by kernel_rfl) (fun _ _ _ h => h) (Or.inl ⟨by rfl, ?_⟩) ?_ ?_
          rotate_left
          · intro w'
            go_simp
            with_reducible rfl
          rotate_left
          · simp only [Act.put, List.setIfInBounds_toArray, List.set_cons_zero, List.set_cons_succ, i64_w, i32_w]
            rfl
          refine pure_ (i := 7) (N := some 54) (v := ?_) (a' := ?_) #[true, true, true, true, true, true, true, true, false, false, false, false, false, false, false, false, false, false, false, false] rfl rfl (by kernel_rfl) (fun _ _ _ h => h) (Or.inl ⟨by rfl, ?_⟩) ?_ ?_
          rotate_left
          · intro w'
            go_simp
            with_reducible rfl
          rotate_left
          · simp only [Act.put, List.setIfInBounds_toArray, List.set_cons_zero, List.set_cons_succ, i64_w, i32_w]
            rfl
          refine pure_ (i := 8) (N := some 55) (v := ?_) (a' := ?_) #[true, true, true, true, true, true, true, true, true, false, false, false, false, false, false, false, false, false, false, false] rfl rfl (by kernel_rfl) (fun _ _ _ h => h) (Or.inl ⟨by rfl, ?_⟩) ?_ ?_
          rotate_left
          · intro w'
            go_simp
            with_reducible rfl
          rotate_left
          · simp only [Act.put, List.setIfInBounds_toArray, List.set_cons_zero, List.set_cons_succ, i64_w, i32_w]
            rfl
          refine pure_ (i := 9) (N := some 56) (v := ?_) (a' := ?_) #[true, true, true, true, true, true, true, true, true, true, false, false, false, false, false, false, false, false, false, false] rfl rfl (by kernel_rfl) (fun _ _ _ h => h) (Or.inl ⟨by rfl, ?_⟩) ?_ ?_
          rotate_left
          · intro w'
            go_simp
            with_reducible rfl
          rotate_left
          · simp only [Act.put, List.setIfInBounds_toArray, List.set_cons_zero, List.set_cons_succ, i64_w, i32_w]
            rfl
          refine pure_ (i := 10) (N := some 57) (v := ?_) (a' := ?_) #[true, true, true, true, true, true, true, true, true, true, true, false, false, false, false, false, false, false, false, false] rfl rfl (by kernel_rfl) (fun _ _ _ h => h) (Or.inl ⟨by rfl, ?_⟩) ?_ ?_
          rotate_left
          · intro w'
            go_simp
            with_reducible rfl
          rotate_left
          · simp only [Act.put, List.setIfInBounds_toArray, List.set_cons_zero, List.set_cons_succ, i64_w, i32_w]
            rfl
          refine pure_ (i := 12) (N := some 59) (v := ?_) (a' := ?_) #[true, true, true, true, true, true, true, true, true, true, true, false, true, false, false, false, false, false, false, false] rfl rfl (by kernel_rfl) (fun _ _ _ h => h) (Or.inl ⟨by rfl, ?_⟩) ?_ ?_
          rotate_left
          · intro w'
            go_simp
            with_reducible rfl
          rotate_left
          · simp only [Act.put, List.setIfInBounds_toArray, List.set_cons_zero, List.set_cons_succ, i64_w, i32_w]
            rfl
          refine pure_ (i := 13) (N := some 60) (v := ?_) (a' := ?_) #[true, true, true, true, true, true, true, true, true, true, true, false, true, true, false, false, false, false, false, false] rfl rfl (by kernel_rfl) (fun _ _ _ h => h) (Or.inl ⟨by rfl, ?_⟩) ?_ ?_
          rotate_left
          · intro w'
            go_simp
            with_reducible rfl
          rotate_left
          · simp only [Act.put, List.setIfInBounds_toArray, List.set_cons_zero, List.set_cons_succ, i64_w, i32_w]
            rfl
          refine pure_ (i := 14) (N := some 61) (v := ?_) (a' := ?_) #[true, true, true, true, true, true, true, true, true, true, true, false, true, true, true, false, false, false, false, false] rfl rfl (by kernel_rfl) (fun _ _ _ h => h) (Or.inl ⟨by rfl, ?_⟩) ?_ ?_
          rotate_left
          · intro w'
            go_simp
            with_reducible rfl
          rotate_left
          · simp only [Act.put, List.setIfInBounds_toArray, List.set_cons_zero, List.set_cons_succ, i64_w, i32_w]
            rfl
          refine take_ (i := 11) (N := some 58) (v := ?_) (a' := ?_) #[true, true, true, true, true, true, true, true, true, true, true, true, true, true, true, false, false, false, false, false] rfl rfl (by kernel_rfl) (fun _ _ _ h => h) (Or.inl ⟨by rfl, ?_⟩) hHeld ?_ ?_
          rotate_left
          · rintro w' ⟨s0, s1⟩
            go_simp
            with_reducible rfl
          rotate_left
          · simp only [Act.put, List.setIfInBounds_toArray, List.set_cons_zero, List.set_cons_succ, i64_w, i32_w]
            rfl
          refine take_ (i := 15) (N := some 62) (v := ?_) (a' := ?_) #[true, true, true, true, true, true, true, true, true, true, true, true, true, true, true, true, false, false, false, false] rfl rfl (by kernel_rfl) (fun _ _ _ h => h) (Or.inl ⟨by rfl, ?_⟩) hHeld ?_ ?_
          rotate_left
          · rintro w' ⟨s0, s1⟩
            go_simp
            with_reducible rfl
          rotate_left
          · simp only [Act.put, List.setIfInBounds_toArray, List.set_cons_zero, List.set_cons_succ, i64_w, i32_w]
            rfl
          refine pure_ (i := 16) (N := some 63) (v := ?_) (a' := ?_) #[true, true, true, true, true, true, true, true, true, true, true, true, true, true, true, true, true, false, false, false] rfl rfl (by kernel_rfl) (fun _ _ _ h => h) (Or.inl ⟨by rfl, ?_⟩) ?_ ?_
          rotate_left
          · intro w'
            go_simp
            with_reducible rfl
          rotate_left
          · simp only [Act.put, List.setIfInBounds_toArray, List.set_cons_zero, List.set_cons_succ, i64_w, i32_w]
            rfl
          refine last_ (i := 17) (N := none) #[true, true, true, true, true, true, true, true, true, true, true, true, true, true, true, true, true, true, false, false] rfl rfl (by kernel_rfl) (by decide) (fun K hK => ?_)
          refine skip_ (w1 := ?_) (by rfl) rfl ?_ ?_
          rotate_left
          · go_simp
            rfl
          refine hK.out _ _ ?_
          clear hK K
          refine pure_ (i := 18) (N := some 64) (v := ?_) (a' := ?_) #[true, true, true, true, true, true, true, true, true, true, true, true, true, true, true, true, true, true, true, false] rfl rfl (by kernel_rfl) (fun _ _ _ h => h) (Or.inl ⟨by rfl, ?_⟩) ?_ ?_
          rotate_left
          · intro w'
            go_simp
            with_reducible rfl
          rotate_left
          · simp only [Act.put, List.setIfInBounds_toArray, List.set_cons_zero, List.set_cons_succ, i64_w, i32_w]
            rfl
          refine last_ (i := 19) (N := none) #[true, true, true, true, true, true, true, true, true, true, true, true, true, true, true, true, true, true, true, true] rfl rfl (by kernel_rfl) (by decide) (fun K hK => ?_)
          refine skip_ (w1 := ?_) (by rfl) rfl ?_ ?_
          rotate_left
          · go_simp
            rfl
          refine hK.out _ _ ?_
          clear hK K
          refine done_ (by kernel_rfl) ?_
          have SW_ := Aside0.mk (show Srt w g tl (swp dj (i) (a + on)) ((w5.setCell ⟨g, z.toNat, none⟩ (.int .u64 xo)).setCell ⟨g, p1.toNat, none⟩ (.int .u64 xi)).drew by rw [P_z.out.1, P_p1.out.1, X_xi.out, X_xo.out]; exact (SR.out.swp (i) (a + on) (by rw [HD.out]; exact P_z.out.2) (by rw [HD.out]; exact P_p1.out.2)).drew)
          clear SR fz1_ fz2_ f2_ c2_ C_xi C_xo
          have SR := SW_
          clear SW_
          go_wp2
          go_roundg k1
          case measure => exact Nat.lt_succ_self _
          case rel => exact ⟨_, i + 1, swp dj i (a + on), _, rfl, ⟨by have := hz.out; omega⟩, ⟨by have := hi.out; have := IB.out; omega⟩, ⟨by have := hk.out; have := IB.out; omega⟩, ⟨permIn_trans _ _ _ _ _ HP.out (swp_permIn dj a b i (a + on) IB.out.1 IB.out.2.1 (by omega) ON.out (by rw [HD.out]; exact hbd.out))⟩, ⟨(swp_size _ _ _).trans HD.out⟩, SR, B6⟩
      · have cnd : decide (z ≤ mx) = false := decide_eq_false (by have := hz.out; have := MX.out; omega)
        clear hle
        go_wp2
        go_end0
        exact ⟨dj, rfl, HP.out, HD.out, SR.out⟩
end Go.Proofs.Ytdhiljimmijghaa.FAll
