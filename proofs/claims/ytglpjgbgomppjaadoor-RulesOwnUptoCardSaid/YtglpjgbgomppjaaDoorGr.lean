/-
  rules.Room: what an output's score never lies beyond.
-/
import Derived.Test.YtglpjgbgomppjaaDoorRj
namespace Go.Proofs.YtglpjgbgomppjaaDoor.FAll
open Go.RowKit Go.Proofs.YtglpjgbgomppjaaDoorW.PrintWords Go.Proofs.YtglpjgbgomppjaaDoorW.PrintLast Go.Proofs.YtglpjgbgomppjaaDoorW.PrintMore
set_option linter.unusedVariables false
set_option linter.unusedSimpArgs false
theorem room_elem {w w0 : World} {A : Option Addr} {co : Nat} {q : List (List Int)} {x : Int} (HO : Kd.R trimmed 42 w w0.heap.size (fun _ => True) (.slice A q.length co) q) (hx : 0 ≤ x ∧ x < (q.length : Int)) :
    ∃ g, A = some ⟨g, 0, none⟩ ∧ ∃ Aq kq, w.cell? ⟨g, x.toNat, none⟩ = some (.slice Aq (q.getD x.toNat []).length kq) ∧ kq = (q.getD x.toNat []).length ∧ Kd.C (Kd.int .u32) w Aq (q.getD x.toNat []).length (q.getD x.toNat []) ∧ WhereAt w0 w Aq := by
  obtain ⟨g, cap, hv, hwg, hgl, cells, hcell⟩ := Kd.R_form HO (by omega)
  injection hv with hv1 hv2 hv3
  subst hv1
  obtain ⟨ec, hecl, hecM, hecc, hecf⟩ := Kd.R_elem HO [] x hx.1 hx.2
  obtain ⟨Aq, kq, rfl, hqk, hqC, hqw⟩ := hecM
  refine ⟨g, rfl, Aq, kq, ?_, hqk, hqC, fun ad e => ?_⟩
  · have h := hecc 0 _ rfl
    rw [show x.toNat * trimmed.sz + 0 = x.toNat from Nat.mul_one _] at h
    exact h
  · obtain ⟨_, h1, h2, h3⟩ := hqw ad e
    exact ⟨h1, h2, h3⟩
section
variable (nm : ByteArray) (AF : Option Addr) (cF : Nat) (fs : List ByteArray) (outs : Int) (AB : Option Addr) (cB : Nat) (bs : List Int) (AT : Option Addr) (cT : Nat) (ts : List S33) (x : Int)
set_option maxHeartbeats 8000000 in
set_option maxRecDepth 100000 in
theorem rules_Room.out (w : World) (hx : x < 0 ∨ (bs.length : Int) ≤ x) :
    Calls Tryd.prog 10 #[.agg #[.string nm, .slice AF fs.length cF, .int .i64 outs, .slice AB bs.length cB, .slice AT ts.length cT], .int .i64 x] w fun e w' => e = .returned (.tuple #[.slice none 0 0, .int .i64 2]) ∧ Below w.heap.size w w' := by
  have HB := Aside0.mk (Below.refl w.heap.size w)
  by_cases h : x < 0
  · have d1 : decide (x < 0) = true := decide_eq_true h
    clear hx h
    go_enter Tryd.func10, Tryd.ntmps10
    go_wp2_with (first | ((with_reducible refine gate_dst (N := 2) rfl ?_); refine box_event ?hg (N := 2) ?hd (cs := #[.string nm, .slice AF fs.length cF, .int .i64 outs, .slice AB bs.length cB, .slice AT ts.length cT]) (t := 26) ?hr ?_; (case hd => rfl); (case hg => rfl); (case hr => first | (go_simp; done) | (go_simp; rfl)); intro ge hg w1 hbox hb; have n0_ := Aside0.mk (below_step (kB0 HB) hb); have Bge := Aside0.mk hbox; clear HB; have HB := n0_; clear n0_ hb hbox hg; have he := blk5 (w := w1) Bge.out))
    go_ret2
    exact ⟨rfl, kB0 HB⟩
  · have d1 : decide (x < 0) = false := decide_eq_false h
    have d2 : decide ((bs.length : Int) ≤ x) = true := decide_eq_true (by omega)
    clear hx h
    go_enter Tryd.func10, Tryd.ntmps10
    go_wp2_with (first | ((with_reducible refine gate_dst (N := 2) rfl ?_); refine box_event ?hg (N := 2) ?hd (cs := #[.string nm, .slice AF fs.length cF, .int .i64 outs, .slice AB bs.length cB, .slice AT ts.length cT]) (t := 26) ?hr ?_; (case hd => rfl); (case hg => rfl); (case hr => first | (go_simp; done) | (go_simp; rfl)); intro ge hg w1 hbox hb; have n0_ := Aside0.mk (below_step (kB0 HB) hb); have Bge := Aside0.mk hbox; clear HB; have HB := n0_; clear n0_ hb hbox hg; have he := blk5 (w := w1) Bge.out))
    go_ret2
    exact ⟨rfl, kB0 HB⟩
set_option maxHeartbeats 8000000 in
set_option maxRecDepth 100000 in
theorem rules_Room.in_ (w : World) (hbs : Aside0 (Kd.C (Kd.int .i64) w AB bs.length bs)) (hts : Aside0 (Kd.C k33 w AT ts.length ts)) (hbl : Aside0 (bs.length ≤ 1000000000000)) (htl : Aside0 (ts.length ≤ 5000000000000)) (hx0 : 0 ≤ x) (hx1 : x < (bs.length : Int)) :
    Calls Tryd.prog 10 #[.agg #[.string nm, .slice AF fs.length cF, .int .i64 outs, .slice AB bs.length cB, .slice AT ts.length cT], .int .i64 x] w fun e w' => ∃ A c, e = .returned (.tuple #[.slice A ((roomsL bs ts).getD x.toNat []).length c, .int .i64 0]) ∧ Kd.C (Kd.int .u32) w' A ((roomsL bs ts).getD x.toNat []).length ((roomsL bs ts).getD x.toNat []) ∧ c = ((roomsL bs ts).getD x.toNat []).length ∧ WhereAt w w' A ∧ Below w.heap.size w w' := by
  have HB := Aside0.mk (Below.refl w.heap.size w)
  have d1 : decide (x < 0) = false := decide_eq_false (by omega)
  have d2 : decide ((bs.length : Int) ≤ x) = false := decide_eq_false (by omega)
  have HX := Aside0.mk (show 0 ≤ x ∧ x < ((roomsL bs ts).length : Int) by rw [roomsL_length]; exact ⟨hx0, hx1⟩)
  have LQ := Aside0.mk (show x < ((roomsL bs ts).length : Int) from HX.out.2)
  obtain ⟨qi, hqi⟩ : ∃ qi, qi = (roomsL bs ts).getD x.toNat [] := ⟨_, rfl⟩
  rw [← hqi]
  have HQ := Aside0.mk hqi
  clear hqi
  go_enter Tryd.func10, Tryd.ntmps10
  go_wp2_with (first | ((with_reducible refine gate_dst (N := 2) rfl ?_); refine box_event ?hg (N := 2) ?hd (cs := #[.string nm, .slice AF fs.length cF, .int .i64 outs, .slice AB bs.length cB, .slice AT ts.length cT]) (t := 26) ?hr ?_; (case hd => rfl); (case hg => rfl); (case hr => first | (go_simp; done) | (go_simp; rfl)); intro ge hg w1 hbox hb; have n0_ := Aside0.mk (below_step (kB0 HB) hb); have Bge := Aside0.mk hbox; clear HB; have HB := n0_; clear n0_ hb hbox hg; have he := blk5 (w := w1) Bge.out) | (go_at_call 18; refine (rules_rooms.calls nm AF fs.length cF outs AB cB bs AT cT ts _ ⟨Kd.C_below hbs.out (kB0 HB)⟩ ⟨Kd.C_below hts.out (kB0 HB)⟩ hbl htl).mono ?_; rintro e w2 ⟨vq, rfl, hq, hb⟩; obtain ⟨Ao, co, rfl⟩ := Kd.R_slice hq; have XQ := Aside0.mk (room_elem hq HX.out); obtain ⟨g, rfl, Aq, kq, ce, hqk, hqC, hqW⟩ := XQ.out; rw [← HQ.out] at ce hqk hqC; have HB0_ := HB; have QK := Aside0.mk hqk; have QC := Aside0.mk hqC; have QW := Aside0.mk hqW; have hlq := LQ.out; have n1_ := Aside0.mk (below_step (kB0 HB) hb); have WB := Aside0.mk (below_size HB0_.out : w.heap.size ≤ w1.heap.size); clear HB he hq hqk hqC hqW XQ; have HB := n1_; clear n1_ hb))
  go_ret2
  exact ⟨_, _, rfl, QC.out, QK.out, fun ad e => ⟨Nat.le_trans WB.out (QW.out ad e).1, (QW.out ad e).2⟩, kB0 HB⟩
/-- What Room answers. -/
def roomV : List Int × Int := if 0 ≤ x ∧ x < (bs.length : Int) then ((roomsL bs ts).getD x.toNat [], 0) else ([], 2)
theorem rules_Room.calls (w : World) (hbs : Aside0 (Kd.C (Kd.int .i64) w AB bs.length bs)) (hts : Aside0 (Kd.C k33 w AT ts.length ts)) (hbl : Aside0 (bs.length ≤ 1000000000000)) (htl : Aside0 (ts.length ≤ 5000000000000)) :
    Calls Tryd.prog 10 #[.agg #[.string nm, .slice AF fs.length cF, .int .i64 outs, .slice AB bs.length cB, .slice AT ts.length cT], .int .i64 x] w fun e w' => ∃ A c, e = .returned (.tuple #[.slice A (roomV bs ts x).1.length c, .int .i64 (roomV bs ts x).2]) ∧ Kd.C (Kd.int .u32) w' A (roomV bs ts x).1.length (roomV bs ts x).1 ∧ c = (roomV bs ts x).1.length ∧ WhereAt w w' A ∧ Below w.heap.size w w' := by
  by_cases h : 0 ≤ x ∧ x < (bs.length : Int)
  · have e : roomV bs ts x = ((roomsL bs ts).getD x.toNat [], 0) := if_pos h
    rw [e]
    exact rules_Room.in_ nm AF cF fs outs AB cB bs AT cT ts x w hbs hts hbl htl h.1 h.2
  · have e : roomV bs ts x = ([], 2) := if_neg h
    rw [e]
    refine (rules_Room.out nm AF cF fs outs AB cB bs AT cT ts x w (by omega)).mono ?_
    rintro e w' ⟨rfl, hb⟩
    exact ⟨none, 0, rfl, Kd.C_nil _ _, rfl, (fun ad e => by cases e), hb⟩
end
end Go.Proofs.YtglpjgbgomppjaaDoor.FAll
