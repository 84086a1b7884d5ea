/-
  choosePivot at []uint64: where its answer lies.
-/
import Derived.Test.YtdhiljimmijghaaSm
namespace Go.Proofs.Ytdhiljimmijghaa.FAll
open Go.RowKit Go.Sort Go.Proofs.YtdhiljimmijghaaW.PrintWords Go.Proofs.YtdhiljimmijghaaW.PrintLast Go.Proofs.YtdhiljimmijghaaW.PrintMore
set_option linter.unusedVariables false
set_option linter.unusedSimpArgs false
theorem piv_out {w w1 w' : World} {g gs : Nat} {tl : List Value} {d : Array Int} (h1 : Below w.heap.size w w1) (hgs : w.heap.size ≤ gs) (hp : Piv w1 g tl d gs w') : Srt w g tl d w' :=
  ⟨hp.row, ⟨hp.grown.os.trans h1.os, hp.grown.tape.trans h1.tape, hp.grown.output.trans h1.output, Nat.le_trans h1.size hp.grown.size, fun k hk _ => (hp.grown.block k (Nat.lt_of_lt_of_le hk h1.size) (fun e => by injection e with e; omega)).trans (h1.block k hk)⟩⟩
set_option maxHeartbeats 16000000 in
set_option maxRecDepth 100000 in
theorem choosePivot64.calls (w : World) (g cap : Nat) (tl : List Value) (d : Array Int) (a b : Nat) (az bz : Int) (haz : Aside0 (az = a)) (hbz : Aside0 (bz = b)) (hR : Aside0 (Srt w g tl d w)) (hbd : Aside0 (b ≤ d.size)) (hab : Aside0 (a < b)) (hsz : Aside0 (d.size ≤ 1152921504606846976)) :
    Calls Try.prog 42 #[.slice (some ⟨g, 0, none⟩) d.size cap, .int .i64 az, .int .i64 bz] w fun e w' => ∃ (p : Nat) (h : Int), e = .returned (.tuple #[.int .i64 (p : Int), .int .i64 h]) ∧ (a ≤ p ∧ p < b) ∧ (h = 0 ∨ h = 1 ∨ h = 2) ∧ Srt w g tl d w' := by
  have ha_ := haz.out
  have hb_ := hbz.out
  have hl_ := hab.out
  have hm_ := hbd.out
  have hs_ := hsz.out
  obtain ⟨q, hq⟩ : ∃ q : Nat, q = (b - a) / 4 := ⟨_, rfl⟩
  have QN := Aside0.mk (show 4 * q ≤ b - a ∧ b - a < 4 * q + 4 by omega)
  have hqn := QN.out
  obtain ⟨lz, hlz⟩ : ∃ lz : Int, lz = bz - az := ⟨_, rfl⟩
  obtain ⟨qz, hqz⟩ : ∃ qz : Int, qz = (q : Int) := ⟨_, rfl⟩
  have LZ := Aside0.mk (show lz = ((b - a : Nat) : Int) by omega)
  have wl_ : wrap64 (bz - az) = lz := by unfold wrap64; omega
  have wt_ : Int.tdiv lz 4 = qz := by rw [LZ.out, hqz, hq]; rfl
  have wq_ : wrap64 qz = qz := by unfold wrap64; omega
  obtain ⟨q2, hq2⟩ : ∃ q2 : Int, q2 = qz * 2 := ⟨_, rfl⟩
  obtain ⟨q3, hq3⟩ : ∃ q3 : Int, q3 = qz * 3 := ⟨_, rfl⟩
  have w1_ : wrap64 (qz * 1) = qz := by unfold wrap64; omega
  have w2_ : wrap64 (qz * 2) = q2 := by unfold wrap64; omega
  have w3_ : wrap64 (qz * 3) = q3 := by unfold wrap64; omega
  obtain ⟨iz, hiz⟩ : ∃ iz : Int, iz = az + qz := ⟨_, rfl⟩
  obtain ⟨jz, hjz⟩ : ∃ jz : Int, jz = az + q2 := ⟨_, rfl⟩
  obtain ⟨kz, hkz⟩ : ∃ kz : Int, kz = az + q3 := ⟨_, rfl⟩
  have IZ := Aside0.mk (show iz = ((a + q : Nat) : Int) by omega)
  have JZ := Aside0.mk (show jz = ((a + 2 * q : Nat) : Int) by omega)
  have KZ := Aside0.mk (show kz = ((a + 3 * q : Nat) : Int) by omega)
  have wi_ : wrap64 (az + qz) = iz := by unfold wrap64; omega
  have wj_ : wrap64 (az + q2) = jz := by unfold wrap64; omega
  have wk_ : wrap64 (az + q3) = kz := by unfold wrap64; omega
  clear ha_ hb_ hl_ hm_ hs_ hq hqn hlz hqz hq2 hq3 hiz hjz hkz
  go_enter Try.func42, Try.ntmps42
  by_cases h8 : b - a < 8
  · have c8 : decide (lz ≥ 8) = false := decide_eq_false (by have := LZ.out; omega)
    clear h8
    go_wp2_with (first | ((with_reducible refine gate_dst (N := 9) rfl ?_); refine box_event ?hg (N := 9) ?hd (cs := #[.int .i64 0]) (t := 3) ?hr ?_; (case hd => rfl); (case hg => rfl); (case hr => first | (go_simp; done) | (go_simp; rfl)); intro gs hg w1 hbox hb; have GS := Aside0.mk (show w.heap.size ≤ gs by rw [hg]; exact Nat.le_refl _); have HB := Aside0.mk hb; have P0 := Aside0.mk (show Piv w1 g tl d gs w1 from ⟨blk_below hR.out.row hb, ⟨0, hbox⟩, World.grownBy.refl w1 _⟩); have hbs := blk_one hbox; clear hbox hb hg))
    go_ret2
    exact ⟨a + 2 * q, 1, by rw [← JZ.out, ← wj_]; rfl, by have := haz.out; have := hbz.out; have := hab.out; have := hbd.out; have := QN.out; omega, .inr (.inl rfl), piv_out HB.out GS.out P0.out⟩
  · have c8 : decide (lz ≥ 8) = true := decide_eq_true (by have := LZ.out; omega)
    have H8 := Aside0.mk h8
    clear h8
    by_cases h50 : b - a < 50
    · have c50 : decide (lz ≥ 50) = false := decide_eq_false (by have := LZ.out; omega)
      clear h50
      go_wp2_with (first | ((with_reducible refine gate_dst (N := 9) rfl ?_); refine box_event ?hg (N := 9) ?hd (cs := #[.int .i64 0]) (t := 3) ?hr ?_; (case hd => rfl); (case hg => rfl); (case hr => first | (go_simp; done) | (go_simp; rfl)); intro gs hg w1 hbox hb; have GS := Aside0.mk (show w.heap.size ≤ gs by rw [hg]; exact Nat.le_refl _); have HB := Aside0.mk hb; have P0 := Aside0.mk (show Piv w1 g tl d gs w1 from ⟨blk_below hR.out.row hb, ⟨0, hbox⟩, World.grownBy.refl w1 _⟩); have hbs := blk_one hbox; clear hbox hb hg) | (go_at_call 55; refine (median64.calls _ g cap gs tl d (a + q) (a + 2 * q) (a + 3 * q) iz jz kz IZ JZ KZ ⟨P0.out.self_⟩ ⟨by have := haz.out; have := hbz.out; have := hab.out; have := hbd.out; have := QN.out; have := H8.out; omega⟩ hsz).mono ?_; rintro e v9 ⟨y9, rfl, hx, hp⟩; have X9 := Aside0.mk hx; have P9 := Aside0.mk (P0.out.then_ hp); clear hx hp hbs; obtain ⟨s9, hb9⟩ := P9.out.box; have hbs := blk_one hb9; clear hb9))
      all_goals
        go_ret2
        exact ⟨y9, _, rfl, by have := X9.out; have := haz.out; have := hbz.out; have := hab.out; have := hbd.out; have := QN.out; have := H8.out; omega, by first | exact .inl rfl | exact .inr (.inl rfl) | exact .inr (.inr rfl), piv_out HB.out GS.out P9.out⟩
    · have c50 : decide (lz ≥ 50) = true := decide_eq_true (by have := LZ.out; omega)
      have H50 := Aside0.mk h50
      clear h50
      go_wp2_with (first | ((with_reducible refine gate_dst (N := 9) rfl ?_); refine box_event ?hg (N := 9) ?hd (cs := #[.int .i64 0]) (t := 3) ?hr ?_; (case hd => rfl); (case hg => rfl); (case hr => first | (go_simp; done) | (go_simp; rfl)); intro gs hg w1 hbox hb; have GS := Aside0.mk (show w.heap.size ≤ gs by rw [hg]; exact Nat.le_refl _); have HB := Aside0.mk hb; have P0 := Aside0.mk (show Piv w1 g tl d gs w1 from ⟨blk_below hR.out.row hb, ⟨0, hbox⟩, World.grownBy.refl w1 _⟩); have hbs := blk_one hbox; clear hbox hb hg) | (go_at_call 54; have q_ := P2; clear q_; refine (medianAdjacent64.calls _ g cap gs tl d (a + 3 * q) kz KZ ⟨P2.out.self_⟩ ⟨by have := haz.out; have := hbz.out; have := hab.out; have := hbd.out; have := QN.out; have := H50.out; omega⟩ hsz).mono ?_; rintro e v3 ⟨y3, rfl, hx, hp⟩; have X3 := Aside0.mk hx; have P3 := Aside0.mk (P2.out.then_ hp); clear hx hp) | (go_at_call 54; have q_ := P1; clear q_; refine (medianAdjacent64.calls _ g cap gs tl d (a + 2 * q) jz JZ ⟨P1.out.self_⟩ ⟨by have := haz.out; have := hbz.out; have := hab.out; have := hbd.out; have := QN.out; have := H50.out; omega⟩ hsz).mono ?_; rintro e v2 ⟨y2, rfl, hx, hp⟩; have X2 := Aside0.mk hx; have P2 := Aside0.mk (P1.out.then_ hp); clear hx hp) | (go_at_call 54; have q_ := P0; clear q_; refine (medianAdjacent64.calls _ g cap gs tl d (a + q) iz IZ ⟨P0.out.self_⟩ ⟨by have := haz.out; have := hbz.out; have := hab.out; have := hbd.out; have := QN.out; have := H50.out; omega⟩ hsz).mono ?_; rintro e v1 ⟨y1, rfl, hx, hp⟩; have X1 := Aside0.mk hx; have P1 := Aside0.mk (P0.out.then_ hp); clear hx hp) | (go_at_call 55; refine (median64.calls _ g cap gs tl d y1 y2 y3 (y1 : Int) (y2 : Int) (y3 : Int) ⟨rfl⟩ ⟨rfl⟩ ⟨rfl⟩ ⟨P3.out.self_⟩ ⟨by have := haz.out; have := hbz.out; have := hab.out; have := hbd.out; have := QN.out; have := H50.out; have := X1.out; have := X2.out; have := X3.out; omega⟩ hsz).mono ?_; rintro e v9 ⟨y9, rfl, hx, hp⟩; have X9 := Aside0.mk hx; have P9 := Aside0.mk (P3.out.then_ hp); clear hx hp hbs; obtain ⟨s9, hb9⟩ := P9.out.box; have hbs := blk_one hb9; clear hb9))
      all_goals
        go_ret2
        exact ⟨y9, _, rfl, by have := X9.out; have := X1.out; have := X2.out; have := X3.out; have := haz.out; have := hbz.out; have := hab.out; have := hbd.out; have := QN.out; have := H50.out; omega, by first | exact .inl rfl | exact .inr (.inl rfl) | exact .inr (.inr rfl), piv_out HB.out GS.out P9.out⟩
end Go.Proofs.Ytdhiljimmijghaa.FAll
