/-
  slices.Clone of each kind; a row of which some elements are still the elder ones' (Kd.half).
-/
import Derived.Test.YtpeiafamkajedaaDoorGs
namespace Go.Proofs.YtpeiafamkajedaaDoor.FAll
open Go.RowKit Go.Proofs.YtpeiafamkajedaaDoorW.PrintWords Go.Proofs.YtpeiafamkajedaaDoorW.PrintLast Go.Proofs.YtpeiafamkajedaaDoorW.PrintMore
attribute [local go_sem] fstore_walk
set_option linter.unusedVariables false
set_option linter.unusedSimpArgs false
theorem ReadsRow.mapped {α β : Type} {R : α → List Value → Prop} {R' : β → List Value → Prop} {size : Nat} {w : World} {A : Option Addr} {n : Nat} {ps : List α} (f : α → β) (h : ReadsRow R size w A n ps) (hR : ∀ p c, R p c → R' (f p) c) : ReadsRow R' size w A n (ps.map f) :=
  ⟨by rw [List.length_map]; exact h.1, h.2.1, fun hn => by
    obtain ⟨ad, e, hc⟩ := h.2.2 hn
    refine ⟨ad, e, fun j p hj => ?_⟩
    rw [List.getElem?_map] at hj
    obtain ⟨q, hq, rfl⟩ := Option.map_eq_some_iff.1 hj
    obtain ⟨c, hs, hr, hcell⟩ := hc j q hq
    exact ⟨c, hs, hR _ _ hr, hcell⟩⟩
/-- Elements of which some (true) are of the call's own, in all their depth, and some still say what they said in w0. -/
def Kd.half {α : Type} (w0 : World) (d : Kd α) : Kd (Bool × α) where
  sz := d.sz
  E := d.E
  K := fun w x cs => match x with | (true, y) => d.K w y cs | (false, y) => d.K w0 y cs
  M := fun w base ok x cs => match x with | (true, y) => d.M w base ok y cs | (false, y) => d.K w0 y cs
  K_len := by
    rintro w ⟨b, x⟩ cs h
    cases b <;> exact d.K_len h
  K_one := by
    rintro w ⟨b, x⟩ cs h
    cases b <;> exact d.K_one h
  K_below := by
    rintro w w1 ⟨b, x⟩ cs hb h
    cases b
    · exact h
    · exact d.K_below hb h
  K_of_M := by
    rintro w base ok ⟨b, x⟩ cs h
    cases b
    · exact h
    · exact d.K_of_M h
  M_mono := by
    rintro w base ok ok' ⟨b, x⟩ cs hok h
    cases b
    · exact h
    · exact d.M_mono hok h
  M_bound := by
    rintro w base ok ⟨b, x⟩ cs h
    cases b
    · exact h
    · exact d.M_bound h
  M_move := by
    rintro w w1 base ok ⟨b, x⟩ cs hm h
    cases b
    · exact h
    · exact d.M_move hm h
  M_lower := by
    rintro w base base' ok ⟨b, x⟩ cs hb h
    cases b
    · exact h
    · exact d.M_lower hb h
theorem Kd.R_true {α : Type} {w0 : World} {d : Kd α} {e : Nat} {w : World} {b : Nat} {ok : Nat → Prop} {v : Value} {l : List α} (h : (Kd.half w0 d).R e w b ok v (l.map fun x => (true, x))) : d.R e w b ok v l := by
  obtain ⟨h1, inner, ho, hr⟩ := h
  rw [List.length_map] at ho
  refine ⟨h1, inner, ho, by have := hr.1; rw [List.length_map] at this; exact this, fun j p hp => ?_⟩
  exact hr.2 j (true, p) (by rw [List.getElem?_map, hp]; rfl)
theorem Kd.R_roomD {α : Type} (d : Kd α) (w : World) (e : Nat) (cur : Array Value) (cap base : Nat) (hb : base ≤ w.heap.size) (hc : cur.size = cap * d.sz) (hm : cap ≤ maxLen) : Kd.R d e (w.alloc (.cells cur e (0, 0))) base (fun _ => True) (.slice (some ⟨w.heap.size, 0, none⟩) 0 cap) [] :=
  ⟨fun _ _ => trivial, [], ⟨by simp, .inr ⟨w.heap.size, cap, cur, rfl, hb, blk_new _ _, Nat.zero_le _, hm, hc, by simp⟩⟩, Reps.none _ _⟩
theorem infoStrC : (Tryd.prog.info? 9).map (fun i => (i.zero, i.size, i.bytes)) = some (some (.string ⟨#[]⟩), 1, 16) := by kernel_rfl
theorem eqlStrC (u : World) (a : Option Addr) (n c : Nat) : (binOp .eql 22 (.slice a n c) (.slice none 0 0)).run Tryd.prog u = .ok (.bool a.isNone) u := by
  simp only [binOp]
  simp [run_equal_slice_nil u 22 9 a n c Tryd.underlying22]
section
attribute [local go_sem] eqlStrC
set_option maxHeartbeats 8000000 in
set_option maxRecDepth 100000 in
theorem cloneStrC.calls (A : Option Addr) (n c : Nat) (l : List ByteArray) (w : World) (hl : Aside0 (Kd.C (Kd.string) w A n l)) (hn : n * 16 ≤ 140737488355328 := by first | omega | (simp only [] at *; omega)) :
    Calls Tryd.prog 37 #[.slice A n c] w fun e w' => ∃ v, e = .returned v ∧ Kd.R (Kd.string) 9 w' w.heap.size (fun _ => True) v (l) ∧ Below w.heap.size w w' := by
  have hn' : l.length = n := (show ReadsRow _ _ _ _ _ _ from hl.out).1
  have HN := Aside0.mk hn
  have LL := Aside0.mk hn'
  clear hn hn'
  cases A with
  | none =>
    have h0 : l = [] := by
      rcases Nat.eq_zero_or_pos n with h | h
      · have := LL.out; exact List.eq_nil_of_length_eq_zero (by omega)
      · obtain ⟨ad, e, _⟩ := (show ReadsRow _ _ _ _ _ _ from hl.out).2.2 h
        cases e
    subst h0
    go_enter Tryd.func37, Tryd.ntmps37
    go_wp2
    go_ret
    exact ⟨_, rfl, Kd.R_nil _ _ _ _ _, Below.refl _ _⟩
  | some ad =>
    go_enter Tryd.func37, Tryd.ntmps37
    go_wp2_with (first | ((with_reducible refine gate_builtin (b := .append) (xs := #[.tmp 5, .tmp 6]) rfl ?_); at_builtin; refine Kd.R_append_rows (Kd.string) (w0 := w) w.heap.size rfl (.tmp 5) (.tmp 6) 22 9 (.string ⟨#[]⟩) 16 rfl Tryd.underlying22 infoStrC rfl (by show 0 < (1 : Nat); decide) (by omega) (.slice (some ⟨w.heap.size, 0, none⟩) 0 0) ([] : List (ByteArray)) (l) _ _ _ (fun _ => True) (fun _ => False) rfl rfl (Kd.R_roomD _ w 9 #[] 0 w.heap.size (Nat.le_refl _) (by simp) (by decide)) (Kd.C_alloc hl.out _) (fun _ _ h => h) (fun _ h => h.elim) (fun _ _ => trivial) (below_alloc (Below.refl _ _) _) (below_size (below_alloc (Below.refl _ _) _)) (by have := HN.out; have := LL.out; simp only [List.length_nil]; omega) ?_; intro v5 w5 R5 hb5 _ _; rw [List.nil_append] at R5; have W5 := Aside0.mk R5; have B5 := Aside0.mk hb5; clear R5 hb5))
    go_ret
    exact ⟨_, rfl, kR W5, kB0 B5⟩
end
theorem infoIntC : (Tryd.prog.info? 3).map (fun i => (i.zero, i.size, i.bytes)) = some (some (.int .i64 0), 1, 8) := by kernel_rfl
theorem eqlIntC (u : World) (a : Option Addr) (n c : Nat) : (binOp .eql 56 (.slice a n c) (.slice none 0 0)).run Tryd.prog u = .ok (.bool a.isNone) u := by
  simp only [binOp]
  simp [run_equal_slice_nil u 56 3 a n c Tryd.underlying56]
section
attribute [local go_sem] eqlIntC
set_option maxHeartbeats 8000000 in
set_option maxRecDepth 100000 in
theorem cloneIntC.calls (A : Option Addr) (n c : Nat) (l : List Int) (w : World) (hl : Aside0 (Kd.C (Kd.int .i64) w A n l)) (hn : n * 8 ≤ 140737488355328 := by first | omega | (simp only [] at *; omega)) :
    Calls Tryd.prog 39 #[.slice A n c] w fun e w' => ∃ v, e = .returned v ∧ Kd.R (Kd.int .i64) 3 w' w.heap.size (fun _ => True) v (l) ∧ Below w.heap.size w w' := by
  have hn' : l.length = n := (show ReadsRow _ _ _ _ _ _ from hl.out).1
  have HN := Aside0.mk hn
  have LL := Aside0.mk hn'
  clear hn hn'
  cases A with
  | none =>
    have h0 : l = [] := by
      rcases Nat.eq_zero_or_pos n with h | h
      · have := LL.out; exact List.eq_nil_of_length_eq_zero (by omega)
      · obtain ⟨ad, e, _⟩ := (show ReadsRow _ _ _ _ _ _ from hl.out).2.2 h
        cases e
    subst h0
    go_enter Tryd.func39, Tryd.ntmps39
    go_wp2
    go_ret
    exact ⟨_, rfl, Kd.R_nil _ _ _ _ _, Below.refl _ _⟩
  | some ad =>
    go_enter Tryd.func39, Tryd.ntmps39
    go_wp2_with (first | ((with_reducible refine gate_builtin (b := .append) (xs := #[.tmp 5, .tmp 6]) rfl ?_); at_builtin; refine Kd.R_append_rows (Kd.int .i64) (w0 := w) w.heap.size rfl (.tmp 5) (.tmp 6) 56 3 (.int .i64 0) 8 rfl Tryd.underlying56 infoIntC rfl (by show 0 < (1 : Nat); decide) (by omega) (.slice (some ⟨w.heap.size, 0, none⟩) 0 0) ([] : List (Int)) (l) _ _ _ (fun _ => True) (fun _ => False) rfl rfl (Kd.R_roomD _ w 3 #[] 0 w.heap.size (Nat.le_refl _) (by simp) (by decide)) (Kd.C_alloc hl.out _) (fun _ _ h => h) (fun _ h => h.elim) (fun _ _ => trivial) (below_alloc (Below.refl _ _) _) (below_size (below_alloc (Below.refl _ _) _)) (by have := HN.out; have := LL.out; simp only [List.length_nil]; omega) ?_; intro v5 w5 R5 hb5 _ _; rw [List.nil_append] at R5; have W5 := Aside0.mk R5; have B5 := Aside0.mk hb5; clear R5 hb5))
    go_ret
    exact ⟨_, rfl, kR W5, kB0 B5⟩
end
theorem infoNodeC : (Tryd.prog.info? 65).map (fun i => (i.zero, i.size, i.bytes)) = some (some (.agg #[.int .u8 0, .int .i64 0, .int .i64 0, .float .f64 0, .slice none 0 0, .int .u8 0, .int .i64 0, .int .i64 0]), 8, 80) := by kernel_rfl
theorem eqlNodeC (u : World) (a : Option Addr) (n c : Nat) : (binOp .eql 35 (.slice a n c) (.slice none 0 0)).run Tryd.prog u = .ok (.bool a.isNone) u := by
  simp only [binOp]
  simp [run_equal_slice_nil u 35 65 a n c Tryd.underlying35]
section
attribute [local go_sem] eqlNodeC
set_option maxHeartbeats 8000000 in
set_option maxRecDepth 100000 in
theorem cloneNodeC.calls (A : Option Addr) (n c : Nat) (l : List S65) (w0 w : World) (hl : Aside0 (ReadsRow (k65.K w0) 8 w A n l)) (hn : n * 80 ≤ 140737488355328 := by first | omega | (simp only [] at *; omega)) :
    Calls Tryd.prog 38 #[.slice A n c] w fun e w' => ∃ v, e = .returned v ∧ Kd.R (Kd.half w0 k65) 65 w' w.heap.size (fun _ => True) v (l.map fun x => (false, x)) ∧ Below w.heap.size w w' := by
  have hn' : l.length = n := (show ReadsRow _ _ _ _ _ _ from hl.out).1
  have HN := Aside0.mk hn
  have LL := Aside0.mk hn'
  clear hn hn'
  cases A with
  | none =>
    have h0 : l = [] := by
      rcases Nat.eq_zero_or_pos n with h | h
      · have := LL.out; exact List.eq_nil_of_length_eq_zero (by omega)
      · obtain ⟨ad, e, _⟩ := (show ReadsRow _ _ _ _ _ _ from hl.out).2.2 h
        cases e
    subst h0
    go_enter Tryd.func38, Tryd.ntmps38
    go_wp2
    go_ret
    exact ⟨_, rfl, Kd.R_nil _ _ _ _ _, Below.refl _ _⟩
  | some ad =>
    go_enter Tryd.func38, Tryd.ntmps38
    go_wp2_with (first | ((with_reducible refine gate_builtin (b := .append) (xs := #[.tmp 5, .tmp 6]) rfl ?_); at_builtin; refine Kd.R_append_rows (Kd.half w0 k65) (w0 := w) w.heap.size rfl (.tmp 5) (.tmp 6) 35 65 (.agg #[.int .u8 0, .int .i64 0, .int .i64 0, .float .f64 0, .slice none 0 0, .int .u8 0, .int .i64 0, .int .i64 0]) 80 rfl Tryd.underlying35 infoNodeC rfl (by show 0 < (8 : Nat); decide) (by omega) (.slice (some ⟨w.heap.size, 0, none⟩) 0 0) ([] : List (Bool × S65)) (l.map fun x => (false, x)) _ _ _ (fun _ => True) (fun _ => False) rfl rfl (Kd.R_roomD _ w 65 #[] 0 w.heap.size (Nat.le_refl _) (by simp) (by decide)) (ReadsRow.mapped (R' := fun x cs => x.1 = false ∧ k65.K w0 x.2 cs) (fun x => (false, x)) (ReadsRow.imp_ hl.out (below_alloc (Below.refl _ _) _) (fun _ _ h => h)) (fun _ _ h => ⟨rfl, h⟩)) (fun x cs h => by obtain ⟨b, x⟩ := x; obtain ⟨hb, h⟩ := h; replace hb : b = false := hb; subst hb; exact h) (fun _ h => h.elim) (fun _ _ => trivial) (below_alloc (Below.refl _ _) _) (below_size (below_alloc (Below.refl _ _) _)) (by have := HN.out; have := LL.out; simp only [List.length_nil]; omega) ?_; intro v5 w5 R5 hb5 _ _; rw [List.nil_append] at R5; have W5 := Aside0.mk R5; have B5 := Aside0.mk hb5; clear R5 hb5))
    go_ret
    exact ⟨_, rfl, kR W5, kB0 B5⟩
end
end Go.Proofs.YtpeiafamkajedaaDoor.FAll
