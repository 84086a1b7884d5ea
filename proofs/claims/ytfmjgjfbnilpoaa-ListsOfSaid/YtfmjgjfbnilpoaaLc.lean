/-
 lists.copied: a cut of its own memory.
-/
import Derived.Test.YtfmjgjfbnilpoaaZq
import Derived.Test.YtfmjgjfbnilpoaaMm
namespace Go.Proofs.Ytfmjgjfbnilpoaa.FAll
open Go.RowKit Go.Shelf YtfmjgjfbnilpoaaW.PrintWords YtfmjgjfbnilpoaaW.PrintLast YtfmjgjfbnilpoaaW.PrintMore
attribute [local go_sem] fstore_walk
set_option linter.unusedVariables false
set_option linter.unusedSimpArgs false
theorem results_c1 {P : Program} {fn : Func} {p : Tmp} {ty : TypeId} (h : fn.results = #[.cell p ty]) (tmps : Array Value) (w : World) (g : Nat) (t : TypeId) (cs : Array Value) (fr : Nat × Nat) (d : TypeDesc)
  (hp : tmps.getD p undef = .pointer (some ⟨g, 0, none⟩)) (hg : w.heap[g]? = some (.cells cs t fr))
  (hu : P.underlying ty = some d) (hd : (match d with | .struct _ | .array _ _ => true | _ => false) = true) (hi : (P.info? ty).map (·.size) = some cs.size) :
  (results fn tmps).run P w = .ok (.agg cs) w := by
 have hp' : tmps[p]?.getD undef = .pointer (some ⟨g, 0, none⟩) := by simpa using hp
 simp [results, h, hp', asAddr, run_loadVar_row w g t ty cs fr d hg hu hd hi]
theorem put5 {w : World} {g : Nat} {t : TypeId} {u0 u1 u2 u3 u4 : Value} (h : w.heap[g]? = some (.cells #[u0, u1, u2, u3, u4] t (0, 0))) (v0 v1 v2 v3 v4 : Value) :
  (((((w.setCell ⟨g, 0, none⟩ v0).setCell ⟨g, 1, none⟩ v1).setCell ⟨g, 2, none⟩ v2).setCell ⟨g, 3, none⟩ v3).setCell ⟨g, 4, none⟩ v4).heap[g]? = some (.cells #[v0, v1, v2, v3, v4] t (0, 0)) :=
 blk_put (cs := #[v0, v1, v2, v3, u4]) (blk_put (cs := #[v0, v1, v2, u3, u4]) (blk_put (cs := #[v0, v1, u2, u3, u4]) (blk_put (cs := #[v0, u1, u2, u3, u4]) (blk_put h 0 v0 rfl) 1 v1 rfl) 2 v2 rfl) 3 v3 rfl) 4 v4 rfl
theorem far5 (w : World) (g k : Nat) (v0 v1 v2 v3 v4 : Value) (hk : k ≠ g) :
  (((((w.setCell ⟨g, 0, none⟩ v0).setCell ⟨g, 1, none⟩ v1).setCell ⟨g, 2, none⟩ v2).setCell ⟨g, 3, none⟩ v3).setCell ⟨g, 4, none⟩ v4).heap[k]? = w.heap[k]? := by
 rw [Below.heap_setCell _ _ _ k hk, Below.heap_setCell _ _ _ k hk, Below.heap_setCell _ _ _ k hk, Below.heap_setCell _ _ _ k hk, Below.heap_setCell _ _ _ k hk]
theorem R_over5 {α : Type} {d : Kd α} {e : Nat} {w : World} {b : Nat} {v : Value} {xs : List α} {g t : Nat} {cs : Array Value} {ok : Nat → Prop} (h : d.R e w b ok v xs) (hg : w.heap[g]? = some (.cells cs t (0, 0))) (ht : ∀ q, q ∈ e :: d.E → q ≠ t) (v0 v1 v2 v3 v4 : Value) :
  d.R e (((((w.setCell ⟨g, 0, none⟩ v0).setCell ⟨g, 1, none⟩ v1).setCell ⟨g, 2, none⟩ v2).setCell ⟨g, 3, none⟩ v3).setCell ⟨g, 4, none⟩ v4) b ok v xs :=
 Kd.R_mono (Kd.R_move (Kd.R_types h hg ht) (fun k hk => far5 w g k v0 v1 v2 v3 v4 hk.2)) (fun _ hk => hk.1)
set_option maxHeartbeats 4000000 in
set_option maxRecDepth 100000 in
theorem lists_copied.calls (w : World) (th : Nat) (A : Option Addr) (c : Nat) (cs : List Int) (tr fr to_ : Int) (hcs : Aside0 (Kd.C (Kd.int .i64) w A cs.length cs)) (hl : Aside0 (cs.length * 8 ≤ 140737488355328)) :
  Calls Try.prog 24 #[.agg #[.float .f64 th, .slice A cs.length c, .int .i64 tr, .int .i64 fr, .int .i64 to_]] w fun e w' => ∃ v, e = .returned (.agg #[.float .f64 th, v, .int .i64 tr, .int .i64 fr, .int .i64 to_]) ∧ Kd.R (Kd.int .i64) 3 w' w.heap.size (fun _ => True) v cs ∧ Below w.heap.size w w' := by
 have HB := aS_ (Below.refl w.heap.size w)
 go_enter Try.func24, Try.ntmps24
 go_wp2_with (first | ((with_reducible refine gate_dst (N := 1) rfl ?_); refine box_event ?hg (N := 1) ?hd (cs := #[.float .f64 th, .slice A cs.length c, .int .i64 tr, .int .i64 fr, .int .i64 to_]) (t := 56) ?hr ?_; (case hd => rfl); (case hg => rfl); (case hr => first | (go_simp; done) | (go_simp; rfl)); intro gx hg w1 hbox hb; have GX := aS_ (show w.heap.size ≤ gx by rw [hg]; exact Nat.le_refl _); have n0_ := aS_ (below_step (kB0 HB) hb); have BX := aS_ hbox; clear HB; have HB := n0_; clear n0_ hb hbox hg) | ((with_reducible refine gate_dst (N := 2) rfl ?_); refine box_event ?hg (N := 2) ?hd (cs := #[.float .f64 0, .slice none 0 0, .int .i64 0, .int .i64 0, .int .i64 0]) (t := 56) ?hr ?_; (case hd => rfl); (case hg => rfl); (case hr => first | (go_simp; done) | (go_simp; rfl)); intro gy hg w2 hbox hb; have GY := aS_ (show w.heap.size ≤ gy by rw [hg]; exact below_size (kB0 HB)); have NE := aS_ (show gx ≠ gy by rw [hg]; exact Nat.ne_of_lt (blk_lt BX.out)); have m1_ := aS_ (blk_below BX.out hb); have m2_ := aS_ (below_step (kB0 HB) hb); clear BX HB; have BX := m1_; have HB := m2_; clear m1_ m2_; have BY := aS_ hbox; clear hb hbox hg; have hx2 := blk5 BX.out) | ((with_reducible refine gate_builtin (b := .append) (xs := #[.const (.slice none 0 0), .tmp 4]) rfl ?_); at_builtin; refine Kd.R_append_rows (Kd.int .i64) (w0 := w) w.heap.size rfl (.const (.slice none 0 0)) (.tmp 4) 54 3 (.int .i64 0) 8 rfl Try.underlying54 infoINT rfl (by decide) (by omega) (.slice none 0 0) ([] : List Int) cs _ _ _ (fun _ => True) (fun _ => False) rfl rfl (Kd.R_nil _ _ _ _ _) (Kd.C_below hcs.out HB.out) (fun _ _ h => h) (fun _ h => h.elim) (fun _ _ => trivial) HB.out (below_size HB.out) (by have := hl.out; simp only [List.length_nil]; omega) ?_; intro v3 w3 R3 hb3 hg3 _; rw [List.nil_append] at R3; obtain ⟨A3, c3, rfl, _, _⟩ := Kd.R_reads R3; have BX3 := blk_grown BX.out hg3 (by simp [Value.ownBlock]); have BY3 := blk_grown BY.out hg3 (by simp [Value.ownBlock]); have BX4 := blk_put BX3 1 (.slice A3 cs.length c3) rfl; have hx3 := blk5 BX3; have hx4 := blk5 BX4; have BY4 := blk_far BY3 (p := ⟨gx, 1, none⟩) (Ne.symm NE.out) (.slice A3 cs.length c3); have hy4 := blk5 BY4; have R4 := aS_ (Kd.R_mono (Kd.R_far (p := ⟨gx, 1, none⟩) (Kd.R_types R3 BX3 (by decide)) (fun _ hk => hk.2) (.slice A3 cs.length c3)) (fun _ _ => trivial : ∀ k, _ → True)); have YB := aS_ BY4; have B4 := aS_ (below_set (g := gx) (j := 1) (v := .slice A3 cs.length c3) hb3 GX.out); clear R3 hb3 hg3 BX3 BY3 BX4 BY4 hx2))
 refine bodyPost_ret (results_c1 rfl _ _ gy 56 #[.float .f64 th, .slice A3 cs.length c3, .int .i64 tr, .int .i64 fr, .int .i64 to_] (0, 0) _ rfl (put5 YB.out _ _ _ _ _) Try.underlying56 rfl (by kernel_rfl)) rfl ?_
 exact ⟨_, rfl, R_over5 R4.out YB.out (by decide) _ _ _ _ _, below_set (below_set (below_set (below_set (below_set B4.out GY.out) GY.out) GY.out) GY.out) GY.out⟩
end Go.Proofs.Ytfmjgjfbnilpoaa.FAll
