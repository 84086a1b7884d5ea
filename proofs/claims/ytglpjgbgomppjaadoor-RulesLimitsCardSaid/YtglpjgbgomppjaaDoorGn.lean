/-
  RulesLimits: its walk.
-/
import Derived.Test.YtglpjgbgomppjaaDoorSm
namespace Go.Proofs.YtglpjgbgomppjaaDoor.FAll
open Go.RowKit Go.Shelf Go.Maps Go.WideMaps Go.Proofs.YtglpjgbgomppjaaDoorW.PrintWords Go.Proofs.YtglpjgbgomppjaaDoorW.PrintLast Go.Proofs.YtglpjgbgomppjaaDoorW.PrintMore
attribute [local go_sem] fstore_walk
set_option linter.unusedVariables false
set_option linter.unusedSimpArgs false
/-- small's answer, its slices its own. -/
theorem small_own (w : World) : Calls Tryd.prog 6 #[] w fun e w' => ∃ A1 c1 A3 c3 A4 c4, e = .returned (.agg #[.string smallN, .slice A1 smallF.length c1, .int .i64 1, .slice A3 smallB.length c3, .slice A4 smallT.length c4]) ∧ Kd.R Kd.string 9 w' w.heap.size (fun _ => True) (.slice A1 smallF.length c1) smallF ∧ smallF.length ≤ c1 ∧ Kd.R (Kd.int .i64) 2 w' w.heap.size (fun _ => True) (.slice A3 smallB.length c3) smallB ∧ smallB.length ≤ c3 ∧ Kd.N k33 33 w' w.heap.size (fun k => w.heap.size ≤ k) (.slice A4 smallT.length c4) smallT ∧ smallT.length ≤ c4 ∧ Below w.heap.size w w' := by
  refine (thicketlaw08_small.calls smallN smallF 1 smallB smallT w rfl).mono ?_
  rintro e w' ⟨v1, v3, v4, rfl, R1, R3, N4, hb⟩
  obtain ⟨A1, c1, rfl, l1, _⟩ := Kd.R_reads R1
  obtain ⟨A3, c3, rfl, l3, _⟩ := Kd.R_reads R3
  obtain ⟨A4, c4, rfl⟩ := Kd.N_slice N4
  obtain ⟨_, l4, _⟩ := Kd.N_reads' N4
  exact ⟨A1, c1, A3, c3, A4, c4, rfl, Kd.R_mono R1 (fun _ _ => trivial), l1, Kd.R_mono R3 (fun _ _ => trivial), l3, Kd.N_mono N4 (fun _ h => h.1), l4, hb⟩
theorem valueR_ {P : Program} {ops : Array Oper} {Q : Exit → Act → World → Prop} {oi : Oper} {N : Option Tmp} {a : Act} {w w1 : World} {v : Value} {K : Act → World → Prop} (hw : Region.wanted oi (yielded ops a.tmps) = true) (hN : oi.dst = N) (hrun : (execOp a.eval oi).run P w = .ok (.value v) w1)
    (h : K (a.put N v) w1) : if Region.wanted oi (yielded ops a.tmps) = true then Oper.wp P oi a w K Q else K (a.put N undef) w := by
  rw [if_pos hw]
  unfold Oper.wp
  rw [hrun]
  show K (a.put oi.dst v) w1
  rw [hN]
  exact h
theorem cellB {w w1 : World} (h : Below w.heap.size w w1) {a : Addr} {v : Value} (hc : w.cell? a = some v) : w1.cell? a = some v := (h.cell (World.block_lt_of_cell? w a hc)).trans hc
theorem N_form {α : Type} {d : Kd α} {e : Nat} {w : World} {b : Nat} {ok : Nat → Prop} {v : Value} {xs : List α} (h : Kd.N d e w b ok v xs) (hp : 0 < xs.length) : ∃ g cap, v = .slice (some ⟨g, 0, none⟩) xs.length cap ∧ b ≤ g ∧ g < w.heap.size ∧ ∃ cells, w.heap[g]? = some (.cells cells e (0, 0)) := by
  obtain ⟨_, rows, hl, hR, _⟩ := h
  have := Kd.R_form hR (by omega)
  rwa [hl] at this
theorem R_overN {α β : Type} {d : Kd α} {d' : Kd β} {e e' b b' : Nat} {ok ok' : Nat → Prop} {W w1 : World} {u v : Value} {xs : List α} {ys : List β} (h : Kd.R d e W b ok u xs) (hv : Kd.N d' e' W b' ok' v ys) (ht : ∀ q, q ∈ e :: d.E → q ≠ e') (hg : W.grownBy w1 v.ownBlock) : Kd.R d e w1 b ok u xs := by
  obtain ⟨_, rows, _, hR, _⟩ := hv
  exact Kd.R_over' h (Kd.R_typed hR) ht hg
theorem F_mono {α : Type} {d : Kd α} {W : World} {ok ok' : Nat → Prop} {A : Option Addr} {n : Nat} {xs : List α} (h : Kd.F d W ok A n xs) (hok : ∀ k, ok k → ok' k) : Kd.F d W ok' A n xs := Foot.mono h hok
theorem F_step {α : Type} {d : Kd α} {W W1 : World} {ok : Nat → Prop} {A : Option Addr} {n : Nat} {xs : List α} (h : Kd.F d W ok A n xs) (hm : ∀ k, ok k → k < W.heap.size → W1.heap[k]? = W.heap[k]?) : Kd.F d W1 ok A n xs := Foot.step h hm
/-- An element laid into a block of its own. -/
theorem F_lit {α : Type} {d : Kd α} {e : Nat} (W : World) (b : Nat) {okp : Nat → Prop} {p : α} {cs : List Value} (hb : W.heap.size = b) (h : Kd.FK d W okp p cs) (hok : ∀ k, okp k → k < W.heap.size) : Kd.F d (W.alloc (.cells cs.toArray e)) (fun k => okp k ∨ k = b) (some ⟨b, 0, none⟩) 1 [p] := by
  subst hb
  intro W' hW
  have hK : d.K W' p cs := h W' (fun k hk hlt => (hW k (Or.inl hk) (by rw [World.size_alloc]; omega)).trans (Below.heap_alloc W _ k hlt))
  have hblk : W'.heap[W.heap.size]? = some (.cells cs.toArray e (0, 0)) := (hW _ (Or.inr rfl) (by rw [World.size_alloc]; omega)).trans (blk_new W _)
  refine ⟨rfl, by decide, fun _ => ⟨_, rfl, fun j q hj => ?_⟩⟩
  rcases j with _ | j
  · obtain rfl : p = q := by simpa using hj
    refine ⟨cs, d.K_len hK, hK, fun i u hu => ?_⟩
    rw [Nat.zero_mul, Nat.zero_add, add_plain]
    exact (blk_cell hblk i).trans (by rw [List.getElem?_toArray]; exact hu)
  · simp at hj
theorem N_empty {α : Type} {d : Kd α} {e : Nat} (W : World) (b base : Nat) (ok : Nat → Prop) (hb : W.heap.size = b) (hbase : base ≤ b) (hok : ok b) : Kd.N d e (W.alloc (.cells #[] e)) base ok (.slice (some ⟨b, 0, none⟩) 0 0) [] := by
  subst hb
  refine ⟨fun k hk => ?_, [], rfl, ⟨fun k hk => hk.symm, [], ⟨by simp, .inr ⟨W.heap.size, 0, #[], rfl, hbase, blk_new W _, Nat.le_refl _, by decide, by simp, by simp⟩⟩, Reps.none _ _⟩, fun j x c hj => by simp at hj⟩
  obtain rfl : W.heap.size = k := by simpa [Value.ownBlock] using hk
  exact hok
section
variable {α : Type} {d : Kd α} {e : Nat} {w W w3 : World} {ge gf g : Nat} {v3 : Value} {xs : List α} {p : α} {cs : List Value}
theorem close13a (ho : Kd.N d e w3 w.heap.size (fun k => k ≠ ge ∧ k ≠ gf) v3 xs) (hf : Kd.FK d w (fun k => ((k ≠ ge ∧ k ≠ gf) ∧ k ≠ g) ∧ k < w.heap.size) p cs) (hb : Below w.heap.size w w3) (hgf : gf < w.heap.size) (hge : ge < w.heap.size) :
    Kd.N d e (w3.alloc (.cells cs.toArray e)) w.heap.size (fun k => k ≠ ge ∧ k ≠ gf) v3 xs ∧ Kd.F d (w3.alloc (.cells cs.toArray e)) (fun k => (k ≠ ge ∧ k ≠ gf) ∧ some k ≠ v3.ownBlock) (some ⟨w3.heap.size, 0, none⟩) 1 [p] ∧ Below w.heap.size w (w3.alloc (.cells cs.toArray e)) := by
  have hs := hb.size
  refine ⟨Kd.N_alloc ho _, F_mono (F_lit w3 w3.heap.size rfl (Kd.FK_step hf (fun k hk _ => hb.block k hk.2)) (fun k hk => Nat.lt_of_lt_of_le hk.2 hs)) (fun k hk => ?_), below_alloc hb _⟩
  rcases hk with hk | rfl
  · exact ⟨hk.1.1, fun he => by have := Kd.N_base ho k he.symm; have := hk.2; omega⟩
  · exact ⟨⟨by omega, by omega⟩, fun he => by have := Kd.N_lt ho _ he.symm; omega⟩
theorem close13b (b0 b8 : Nat) (ho : Kd.N d e w3 w.heap.size (fun k => k ≠ ge ∧ k ≠ gf) v3 xs) (hb : Below w.heap.size w w3) (hgf : gf < w.heap.size) (hge : ge < w.heap.size) (hg : W.grownBy w3 (Value.slice (some ⟨b0, 0, none⟩) 0 0).ownBlock) (hat : v3.ownBlock = (Value.slice (some ⟨b0, 0, none⟩) 0 0).ownBlock ∨ ∃ b, v3.ownBlock = some b ∧ W.heap.size ≤ b)
    (hf : Kd.F d W (fun k => (((k ≠ ge ∧ k ≠ gf) ∧ k ≠ g) ∧ k < w.heap.size) ∨ k = b8) (some ⟨b8, 0, none⟩) 1 [p]) (hw : W.heap.size = w.heap.size + 2) (hne : b0 ≠ b8) (h0 : w.heap.size ≤ b0) (h8 : w.heap.size ≤ b8) (h82 : b8 < w.heap.size + 2) :
    Kd.N d e w3 w.heap.size (fun k => k ≠ ge ∧ k ≠ gf) v3 xs ∧ Kd.F d w3 (fun k => (k ≠ ge ∧ k ≠ gf) ∧ some k ≠ v3.ownBlock) (some ⟨b8, 0, none⟩) 1 [p] ∧ Below w.heap.size w w3 := by
  have hob : (Value.slice (some ⟨b0, 0, none⟩) 0 0).ownBlock = some b0 := rfl
  rw [hob] at hg hat
  refine ⟨ho, F_mono (F_step hf (fun k hk hlt => hg.block k hlt (fun he => ?_))) (fun k hk => ?_), hb⟩
  · injection he with he
    rcases hk with hk | rfl
    · have := hk.2; omega
    · omega
  · refine ⟨?_, fun he => ?_⟩
    · rcases hk with hk | rfl
      · exact hk.1.1
      · exact ⟨by omega, by omega⟩
    · rcases hat with h | ⟨b, h, hl⟩
      · rw [h] at he
        injection he with he
        rcases hk with hk | rfl
        · have := hk.2; omega
        · omega
      · rw [h] at he
        injection he with he
        rcases hk with hk | rfl
        · have := hk.2; omega
        · omega
end
theorem FK_leafz (W : World) (okp : Nat → Prop) : Kd.FK k40 W okp (⟨1, 0, 0, 0, [], 0, 0, 0⟩ : S40) [.int .u8 1, .int .i64 0, .int .i64 0, .float .f64 0, .slice none 0 0, .int .u8 0, .int .i64 0, .int .i64 0] :=
  fun W' _ => ⟨[_], [_, _, _, _, _, _, _], rfl, rfl, ⟨[_], [_, _, _, _, _, _], rfl, rfl, ⟨[_], [_, _, _, _, _], rfl, rfl, ⟨[_], [_, _, _, _], rfl, rfl, ⟨[_], [_, _, _], rfl, ⟨none, 0, rfl, Nat.le_refl _, Kd.C_nil _ _⟩, ⟨[_], [_, _], rfl, rfl, ⟨[_], [_], rfl, rfl, rfl⟩⟩⟩⟩⟩⟩⟩
theorem infoI64 : (Tryd.prog.info? 2).map (fun i => (i.zero, i.size, i.bytes)) = some (some (.int .i64 0), 1, 8) := by kernel_rfl
theorem infoTREE : (Tryd.prog.info? 33).map (fun i => (i.zero, i.size, i.bytes)) = some (some (.agg #[.int .i64 0, .slice none 0 0]), 2, 32) := by kernel_rfl
theorem infoNODE : (Tryd.prog.info? 40).map (fun i => (i.zero, i.size, i.bytes)) = some (some (.agg #[.int .u8 0, .int .i64 0, .int .i64 0, .float .f64 0, .slice none 0 0, .int .u8 0, .int .i64 0, .int .i64 0]), 8, 80) := by kernel_rfl
theorem Kd.N_fresh {α : Type} {d : Kd α} {e : Nat} {w' : World} {b : Nat} {v : Value} {xs : List α} (h : Kd.N d e w' b (fun k => b ≤ k) v xs) (ge gf : Nat) (h1 : ge < b) (h2 : w'.heap.size ≤ gf) : Kd.N d e w' b (fun k => k ≠ ge ∧ k ≠ gf) v xs :=
  Kd.N_mono (Kd.N_bound h) (fun k hk => ⟨by have := hk.1; omega, by have := hk.2; omega⟩)
/-- A struct of five cells stored. -/
abbrev put5 (w : World) (g : Nat) (v0 v1 v2 v3 v4 : Value) : World := ((((w.setCell ⟨g, 0, none⟩ v0).setCell ⟨g, 1, none⟩ v1).setCell ⟨g, 2, none⟩ v2).setCell ⟨g, 3, none⟩ v3).setCell ⟨g, 4, none⟩ v4
theorem put5_far (w : World) (g : Nat) (v0 v1 v2 v3 v4 : Value) (k : Nat) (h : k ≠ g) : (put5 w g v0 v1 v2 v3 v4).heap[k]? = w.heap[k]? :=
  (Below.heap_setCell _ ⟨g, 4, none⟩ v4 k h).trans ((Below.heap_setCell _ ⟨g, 3, none⟩ v3 k h).trans ((Below.heap_setCell _ ⟨g, 2, none⟩ v2 k h).trans ((Below.heap_setCell _ ⟨g, 1, none⟩ v1 k h).trans (Below.heap_setCell _ ⟨g, 0, none⟩ v0 k h))))
theorem put5_self {w : World} {g : Nat} {t : TypeId} {a0 a1 a2 a3 a4 : Value} (h : w.heap[g]? = some (.cells #[a0, a1, a2, a3, a4] t (0, 0))) (v0 v1 v2 v3 v4 : Value) : (put5 w g v0 v1 v2 v3 v4).heap[g]? = some (.cells #[v0, v1, v2, v3, v4] t (0, 0)) :=
  blk_put (blk_put (blk_put (blk_put (blk_put h 0 v0 rfl) 1 v1 rfl) 2 v2 rfl) 3 v3 rfl) 4 v4 rfl
theorem put5_below {w W : World} {g : Nat} (h : Below w.heap.size w W) (hg : w.heap.size ≤ g) (v0 v1 v2 v3 v4 : Value) : Below w.heap.size w (put5 W g v0 v1 v2 v3 v4) :=
  below_set (below_set (below_set (below_set (below_set h hg) hg) hg) hg) hg
set_option maxHeartbeats 16000000 in
set_option maxRecDepth 100000 in
theorem limits_walk (w : World) (htab : Aside0 (Tab w)) (L1 L2 : List ByteArray) (kn1 kn2 : Nat) (KN1 : Aside0 (thicketlaw08_names.f kn1 65536 = some L1)) (KN2 : Aside0 (thicketlaw08_names.f kn2 65537 = some L2)) (Z1 : Aside0 (∀ s ∈ L1, s.size ≤ maxLen)) (Z2 : Aside0 (∀ s ∈ L2, s.size ≤ maxLen)) (SS : Aside0 (∀ y ∈ smallT, ∃ k, 1 ≤ y.f1.length → trees_Shape.f k y.f0 y.f1 = some ((shapeV y).1, (shapeV y).2))) (C1 : Aside0 (checkV shapeV smallN L1 1 smallB smallT = (0, 0, 0))) (N1 : Aside0 (checkV shapeV smallN L2 1 smallB smallT = (2, -1, -1)))
    (M1 M2 : List S40) (kc1 kc2 : Nat) (KC1 : Aside0 (thicketlaw08_comb.f kc1 4096 = some (0, M1))) (KC2 : Aside0 (thicketlaw08_comb.f kc2 4097 = some (0, M2))) (ML : Aside0 (M1.length ≤ 100000)) (C5_ : Aside0 (∀ L, L = List.replicate (64 : Int).toNat (0 : Int) → checkV shapeV smallN smallF 64 L smallT = (0, 0, 0))) (N5_ : Aside0 (∀ L, L = List.replicate (65 : Int).toNat (0 : Int) → checkV shapeV smallN smallF 65 L smallT = (5, -1, -1))) (C6 : Aside0 (checkV shapeV smallN smallF 1 [-4611686018427387898] smallT = (0, 0, 0))) (N6 : Aside0 (checkV shapeV smallN smallF 1 [4611686018427387899] smallT = (31, -1, 0)))
     (C3 : Aside0 (checkV shapeV smallN smallF 1 smallB [⟨0, M1⟩] = (0, 0, 0))) (N3 : Aside0 (checkV shapeV smallN smallF 1 smallB [⟨0, M2⟩] = (12, 0, -1))) (N4_ : Aside0 (∀ M, M = M1 ++ [(⟨1, 0, 0, 0, [], 0, 0, 0⟩ : S40)] → checkV shapeV smallN smallF 1 smallB [⟨0, M⟩] = (12, 0, -1)))
    (SM1 : Aside0 (∀ y ∈ [(⟨0, M1⟩ : S33)], ∃ k, 1 ≤ y.f1.length → trees_Shape.f k y.f0 y.f1 = some ((shapeV y).1, (shapeV y).2))) (SM2 : Aside0 (∀ y ∈ [(⟨0, M2⟩ : S33)], ∃ k, 1 ≤ y.f1.length → trees_Shape.f k y.f0 y.f1 = some ((shapeV y).1, (shapeV y).2))) (SMU_ : Aside0 (∀ M, M = M1 ++ [(⟨1, 0, 0, 0, [], 0, 0, 0⟩ : S40)] → ∀ y ∈ [(⟨0, M⟩ : S33)], ∃ k, 1 ≤ y.f1.length → trees_Shape.f k y.f0 y.f1 = some ((shapeV y).1, (shapeV y).2)))
    (C2_ : ∀ n, n = 65536 → checkV shapeV smallN smallF 1 smallB (List.replicate n (⟨0, [leaf5]⟩ : S33)) = (0, 0, 0)) (N2_ : ∀ n, n = 65536 → checkV shapeV smallN smallF 1 smallB (List.replicate n (⟨0, [leaf5]⟩ : S33) ++ [(⟨0, [leaf5]⟩ : S33)]) = (7, -1, -1))
    (ST_ : ∀ n, ∀ y ∈ List.replicate n (⟨0, [leaf5]⟩ : S33), ∃ k, 1 ≤ y.f1.length → trees_Shape.f k y.f0 y.f1 = some ((shapeV y).1, (shapeV y).2)) (SU_ : ∀ n, ∀ y ∈ List.replicate n (⟨0, [leaf5]⟩ : S33) ++ [(⟨0, [leaf5]⟩ : S33)], ∃ k, 1 ≤ y.f1.length → trees_Shape.f k y.f0 y.f1 = some ((shapeV y).1, (shapeV y).2)) : Calls Tryd.prog 3 #[] w fun e w' => e = .returned (.bool true) ∧ Below w.heap.size w w' := by
  have HB := Aside0.mk (Below.refl w.heap.size w)
  have C2 := Aside0.mk C2_
  have N2 := Aside0.mk N2_
  have ST := Aside0.mk ST_
  have SU := Aside0.mk SU_
  clear C2_ N2_ ST_ SU_
  go_enter Tryd.func3, Tryd.ntmps3
  go_wp2_with (fail)
  refine (small_own _).mono ?_
  rintro e w1 ⟨A1, c1, A3, c3, A4, c4, rfl, q1, _, q3, _, q4, _, hb⟩
  have n_ := Aside0.mk (below_step HB.out hb)
  clear HB
  have HB := n_
  clear n_
  have Gge := Aside0.mk (below_size HB.out : w.heap.size ≤ w1.heap.size)
  have X3 := Aside0.mk (Kd.R_mono (ok' := fun k => k < w1.heap.size) (Kd.R_bound q3) (fun k hk => hk.2.2.1))
  have X4 := Aside0.mk (Kd.N_mono (ok' := fun k => k < w1.heap.size) (Kd.N_bound q4) (fun k hk => hk.2))
  clear q1 q3 q4 hb
  go_wp2_with (fail)
  refine (small_own _).mono ?_
  rintro e w2 ⟨B1, d1, B3, d3, B4, d4, rfl, q1, _, q3, _, q4, _, hb⟩
  have Bge := Aside0.mk (blk_below (blk_new w1 (.cells #[.string smallN, .slice A1 smallF.length c1, .int .i64 1, .slice A3 smallB.length c3, .slice A4 smallT.length c4] 26 (0, 0))) hb)
  have n_ := Aside0.mk (below_step (below_alloc HB.out _) hb)
  clear HB
  have HB := n_
  clear n_
  have Ggf := Aside0.mk (below_size HB.out : w.heap.size ≤ w2.heap.size)
  have hlt : w1.heap.size < w2.heap.size := by have := hb.size; rw [World.size_alloc] at this; omega
  have NE := Aside0.mk (show w1.heap.size ≠ w2.heap.size by omega)
  have E3 := Aside0.mk (Kd.R_mono (ok' := (fun k => k ≠ w1.heap.size ∧ k ≠ w2.heap.size)) (Kd.R_below (Kd.R_alloc X3.out _) hb) (fun k hk => ⟨by omega, by omega⟩))
  have E4 := Aside0.mk (Kd.N_mono (ok' := (fun k => k ≠ w1.heap.size ∧ k ≠ w2.heap.size)) (Kd.N_below (Kd.N_alloc X4.out _) hb) (fun k hk => ⟨by omega, by omega⟩))
  have F3 := Aside0.mk (Kd.R_mono (ok' := (fun k => k ≠ w1.heap.size ∧ k ≠ w2.heap.size)) (Kd.R_bound q3) (fun k hk => ⟨by have h1 := hk.2.1; rw [World.size_alloc] at h1; omega, by have h1 := hk.2.2.1; omega⟩))
  have F4 := Aside0.mk (Kd.N_fresh q4 w1.heap.size w2.heap.size (by rw [World.size_alloc]; omega) (by omega))
  clear q1 q3 q4 hb X3 X4
  have ha := blk5 (w := w2) Bge.out
  go_wp2_with (fail)
  clear ha
  have SZ := Aside0.mk (show w2.heap.size < w2.heap.size + 1 by omega)
  refine (thicketlaw08_names.calls kn1 _ L1 _ KN1.out).mono ?_
  rintro e w3 ⟨v_, rfl, R_, hb⟩
  obtain ⟨AN, cN, rfl, _, _⟩ := Kd.R_reads R_
  have Bgf := Aside0.mk (blk_below (blk_new w2 (.cells #[.string smallN, .slice B1 smallF.length d1, .int .i64 1, .slice B3 smallB.length d3, .slice B4 smallT.length d4] 26 (0, 0))) hb)
  have n_HB := Aside0.mk (below_step (below_alloc HB.out (.cells #[.string smallN, .slice B1 smallF.length d1, .int .i64 1, .slice B3 smallB.length d3, .slice B4 smallT.length d4] 26 (0, 0))) hb)
  have n_Bge := Aside0.mk (blk_below (blk_alloc Bge.out (.cells #[.string smallN, .slice B1 smallF.length d1, .int .i64 1, .slice B3 smallB.length d3, .slice B4 smallT.length d4] 26 (0, 0))) hb)
  have n_E3 := Aside0.mk (Kd.R_below (Kd.R_alloc E3.out (.cells #[.string smallN, .slice B1 smallF.length d1, .int .i64 1, .slice B3 smallB.length d3, .slice B4 smallT.length d4] 26 (0, 0))) hb)
  have n_E4 := Aside0.mk (Kd.N_below (Kd.N_alloc E4.out (.cells #[.string smallN, .slice B1 smallF.length d1, .int .i64 1, .slice B3 smallB.length d3, .slice B4 smallT.length d4] 26 (0, 0))) hb)
  have n_F3 := Aside0.mk (Kd.R_below (Kd.R_alloc F3.out (.cells #[.string smallN, .slice B1 smallF.length d1, .int .i64 1, .slice B3 smallB.length d3, .slice B4 smallT.length d4] 26 (0, 0))) hb)
  have n_F4 := Aside0.mk (Kd.N_below (Kd.N_alloc F4.out (.cells #[.string smallN, .slice B1 smallF.length d1, .int .i64 1, .slice B3 smallB.length d3, .slice B4 smallT.length d4] 26 (0, 0))) hb)
  clear HB Bge E3 E4 F3 F4
  have HB := n_HB
  have Bge := n_Bge
  have E3 := n_E3
  have E4 := n_E4
  have F3 := n_F3
  have F4 := n_F4
  clear n_HB n_Bge n_E3 n_E4 n_F3 n_F4
  have EN := Aside0.mk (Kd.R_mono (ok' := (fun k => k ≠ w1.heap.size ∧ k ≠ w2.heap.size)) (Kd.R_bound R_) (fun k hk => by have h1 := hk.2.1; rw [World.size_alloc] at h1; exact ⟨by omega, by omega⟩))
  have n_SZ := Aside0.mk (show w2.heap.size < w3.heap.size by have h1 := hb.size; rw [World.size_alloc] at h1; omega)
  clear SZ hb R_
  have SZ := n_SZ
  clear n_SZ
  have ha := blk5 (w := w3) Bge.out
  go_wp2_with (fail)
  clear ha
  have n_HB := Aside0.mk (below_set (g := w1.heap.size) (j := 1) (v := .slice AN L1.length cN) HB.out Gge.out)
  have n_Bge := Aside0.mk (blk_put Bge.out 1 (.slice AN L1.length cN) rfl)
  have n_Bgf := Aside0.mk (blk_far (p := ⟨w1.heap.size, 1, none⟩) Bgf.out NE.out.symm (.slice AN L1.length cN))
  have n_E3 := Aside0.mk (Kd.R_move E3.out (fun k hk => Below.heap_setCell w3 ⟨w1.heap.size, 1, none⟩ (.slice AN L1.length cN) k hk.1))
  have n_E4 := Aside0.mk (Kd.N_far (p := ⟨w1.heap.size, 1, none⟩) E4.out (fun k hk => hk.1) (.slice AN L1.length cN))
  have n_F3 := Aside0.mk (Kd.R_move F3.out (fun k hk => Below.heap_setCell w3 ⟨w1.heap.size, 1, none⟩ (.slice AN L1.length cN) k hk.1))
  have n_F4 := Aside0.mk (Kd.N_far (p := ⟨w1.heap.size, 1, none⟩) F4.out (fun k hk => hk.1) (.slice AN L1.length cN))
  have n_EN := Aside0.mk (Kd.R_move EN.out (fun k hk => Below.heap_setCell w3 ⟨w1.heap.size, 1, none⟩ (.slice AN L1.length cN) k hk.1))
  clear HB Bge Bgf E3 E4 F3 F4 EN
  have HB := n_HB
  have Bge := n_Bge
  have Bgf := n_Bgf
  have E3 := n_E3
  have E4 := n_E4
  have F3 := n_F3
  have F4 := n_F4
  have EN := n_EN
  clear n_HB n_Bge n_Bgf n_E3 n_E4 n_F3 n_F4 n_EN
  refine (thicketlaw08_names.calls kn2 _ L2 _ KN2.out).mono ?_
  rintro e w4 ⟨v_, rfl, R_, hb⟩
  obtain ⟨BN, dN, rfl, _, _⟩ := Kd.R_reads R_
  have n_HB := Aside0.mk (below_step HB.out hb)
  have n_Bge := Aside0.mk (blk_below Bge.out hb)
  have n_Bgf := Aside0.mk (blk_below Bgf.out hb)
  have n_E3 := Aside0.mk (Kd.R_below E3.out hb)
  have n_E4 := Aside0.mk (Kd.N_below E4.out hb)
  have n_F3 := Aside0.mk (Kd.R_below F3.out hb)
  have n_F4 := Aside0.mk (Kd.N_below F4.out hb)
  have n_EN := Aside0.mk (Kd.R_below EN.out hb)
  clear HB Bge Bgf E3 E4 F3 F4 EN
  have HB := n_HB
  have Bge := n_Bge
  have Bgf := n_Bgf
  have E3 := n_E3
  have E4 := n_E4
  have F3 := n_F3
  have F4 := n_F4
  have EN := n_EN
  clear n_HB n_Bge n_Bgf n_E3 n_E4 n_F3 n_F4 n_EN
  have FN := Aside0.mk (Kd.R_mono (ok' := (fun k => k ≠ w1.heap.size ∧ k ≠ w2.heap.size)) (Kd.R_bound R_) (fun k hk => by have h1 := hk.2.1; (try simp only [World.size_alloc, World.size_setCell] at h1); have h2 := SZ.out; exact ⟨by omega, by omega⟩))
  have n_SZ := Aside0.mk (show w2.heap.size < w4.heap.size by have h1 := hb.size; (try simp only [World.size_alloc, World.size_setCell] at h1); have h2 := SZ.out; omega)
  clear SZ
  have SZ := n_SZ
  clear n_SZ
  clear hb R_
  have ha := blk5 (w := w4) Bge.out
  have hb5 := blk5 (w := w4) Bgf.out
  go_wp2_with (fail)
  clear ha hb5
  have n_HB := Aside0.mk (below_set (g := w2.heap.size) (j := 1) (v := .slice BN L2.length dN) HB.out Ggf.out)
  have n_Bgf := Aside0.mk (blk_put Bgf.out 1 (.slice BN L2.length dN) rfl)
  have n_Bge := Aside0.mk (blk_far (p := ⟨w2.heap.size, 1, none⟩) Bge.out NE.out (.slice BN L2.length dN))
  have n_E3 := Aside0.mk (Kd.R_move E3.out (fun k hk => Below.heap_setCell w4 ⟨w2.heap.size, 1, none⟩ (.slice BN L2.length dN) k hk.2))
  have n_E4 := Aside0.mk (Kd.N_far (p := ⟨w2.heap.size, 1, none⟩) E4.out (fun k hk => hk.2) (.slice BN L2.length dN))
  have n_F3 := Aside0.mk (Kd.R_move F3.out (fun k hk => Below.heap_setCell w4 ⟨w2.heap.size, 1, none⟩ (.slice BN L2.length dN) k hk.2))
  have n_F4 := Aside0.mk (Kd.N_far (p := ⟨w2.heap.size, 1, none⟩) F4.out (fun k hk => hk.2) (.slice BN L2.length dN))
  have n_EN := Aside0.mk (Kd.R_move EN.out (fun k hk => Below.heap_setCell w4 ⟨w2.heap.size, 1, none⟩ (.slice BN L2.length dN) k hk.2))
  have n_FN := Aside0.mk (Kd.R_move FN.out (fun k hk => Below.heap_setCell w4 ⟨w2.heap.size, 1, none⟩ (.slice BN L2.length dN) k hk.2))
  clear HB Bgf Bge E3 E4 F3 F4 EN FN
  have HB := n_HB
  have Bgf := n_Bgf
  have Bge := n_Bge
  have E3 := n_E3
  have E4 := n_E4
  have F3 := n_F3
  have F4 := n_F4
  have EN := n_EN
  have FN := n_FN
  clear n_HB n_Bgf n_Bge n_E3 n_E4 n_F3 n_F4 n_EN n_FN
  refine (at_true smallN AN cN L1 1 A3 c3 smallB A4 c4 smallT smallN BN dN L2 1 B3 d3 smallB B4 d4 smallT _ ⟨tab_below htab.out (kB0 HB)⟩ ⟨(Kd.R_reads' EN.out).2.2⟩ Z1 ⟨(Kd.R_reads' E3.out).2.2⟩ ⟨(Kd.N_reads' E4.out).2.2⟩ SS ⟨(Kd.R_reads' FN.out).2.2⟩ Z2 ⟨(Kd.R_reads' F3.out).2.2⟩ ⟨(Kd.N_reads' F4.out).2.2⟩ SS 2 _ _ C1 N1).mono ?_
  rintro e w5 ⟨rfl, hb⟩
  have n_HB := Aside0.mk (below_step HB.out hb)
  have n_Bge := Aside0.mk (blk_below Bge.out hb)
  have n_Bgf := Aside0.mk (blk_below Bgf.out hb)
  have n_E3 := Aside0.mk (Kd.R_below E3.out hb)
  have n_E4 := Aside0.mk (Kd.N_below E4.out hb)
  have n_F3 := Aside0.mk (Kd.R_below F3.out hb)
  have n_F4 := Aside0.mk (Kd.N_below F4.out hb)
  have n_EN := Aside0.mk (Kd.R_below EN.out hb)
  have n_FN := Aside0.mk (Kd.R_below FN.out hb)
  clear HB Bge Bgf E3 E4 F3 F4 EN FN
  have HB := n_HB
  have Bge := n_Bge
  have Bgf := n_Bgf
  have E3 := n_E3
  have E4 := n_E4
  have F3 := n_F3
  have F4 := n_F4
  have EN := n_EN
  have FN := n_FN
  clear n_HB n_Bge n_Bgf n_E3 n_E4 n_F3 n_F4 n_EN n_FN
  have n_SZ := Aside0.mk (show w2.heap.size < w5.heap.size by have h1 := hb.size; (try simp only [World.size_alloc, World.size_setCell] at h1); have h2 := SZ.out; omega)
  clear SZ hb
  have SZ := n_SZ
  clear n_SZ
  have ha := blk5 (w := w5) Bge.out
  have hb5 := blk5 (w := w5) Bgf.out
  go_wp2_with (fail)
  clear ha hb5
  clear EN
  clear FN
  clear E3
  clear E4
  clear F3
  clear F4
  refine (small_own _).mono ?_
  rintro e w6 ⟨A1, c1, A3, c3, A4, c4, rfl, q1, _, q3, _, q4, _, hb⟩
  have lo_ := below_size HB.out
  have n_HB := Aside0.mk (below_step HB.out hb)
  have n_Bge := Aside0.mk (blk_below Bge.out hb)
  have n_Bgf := Aside0.mk (blk_below Bgf.out hb)
  clear HB Bge Bgf
  have HB := n_HB
  have Bge := n_Bge
  have Bgf := n_Bgf
  clear n_HB n_Bge n_Bgf
  have E1 := Aside0.mk (Kd.R_lower (Kd.R_mono (ok' := (fun k => k ≠ w1.heap.size ∧ k ≠ w2.heap.size)) (Kd.R_bound q1) (fun k hk => by have h1 := hk.2.1; (try simp only [World.size_alloc, World.size_setCell] at h1); have h2 := SZ.out; exact ⟨by omega, by omega⟩)) lo_)
  have E3 := Aside0.mk (Kd.R_lower (Kd.R_mono (ok' := (fun k => k ≠ w1.heap.size ∧ k ≠ w2.heap.size)) (Kd.R_bound q3) (fun k hk => by have h1 := hk.2.1; (try simp only [World.size_alloc, World.size_setCell] at h1); have h2 := SZ.out; exact ⟨by omega, by omega⟩)) lo_)
  have E4 := Aside0.mk (Kd.N_lower (Kd.N_mono (ok' := (fun k => k ≠ w1.heap.size ∧ k ≠ w2.heap.size)) q4 (fun k hk => by have h1 := hk; (try simp only [World.size_alloc, World.size_setCell] at h1); have h2 := SZ.out; exact ⟨by omega, by omega⟩)) lo_)
  clear q1 q3 q4 lo_
  have n_SZ := Aside0.mk (show w2.heap.size < w6.heap.size by have h1 := hb.size; (try simp only [World.size_alloc, World.size_setCell] at h1); have h2 := SZ.out; omega)
  clear SZ hb
  have SZ := n_SZ
  clear n_SZ
  have ha := blk5 (w := w6) Bge.out
  have hb5 := blk5 (w := w6) Bgf.out
  go_wp2_with (fail)
  clear ha hb5
  have n_HB := Aside0.mk (put5_below HB.out Gge.out (.string smallN) (.slice A1 smallF.length c1) (.int .i64 1) (.slice A3 smallB.length c3) (.slice A4 smallT.length c4))
  have n_Bge := Aside0.mk (put5_self Bge.out (.string smallN) (.slice A1 smallF.length c1) (.int .i64 1) (.slice A3 smallB.length c3) (.slice A4 smallT.length c4))
  have n_Bgf := Aside0.mk ((put5_far _ w1.heap.size (.string smallN) (.slice A1 smallF.length c1) (.int .i64 1) (.slice A3 smallB.length c3) (.slice A4 smallT.length c4) _ NE.out.symm).trans Bgf.out)
  have n_E1 := Aside0.mk (Kd.R_move E1.out (fun k hk => put5_far _ w1.heap.size (.string smallN) (.slice A1 smallF.length c1) (.int .i64 1) (.slice A3 smallB.length c3) (.slice A4 smallT.length c4) k hk.1))
  have n_E3 := Aside0.mk (Kd.R_move E3.out (fun k hk => put5_far _ w1.heap.size (.string smallN) (.slice A1 smallF.length c1) (.int .i64 1) (.slice A3 smallB.length c3) (.slice A4 smallT.length c4) k hk.1))
  have n_E4 := Aside0.mk (Kd.N_step E4.out (fun k hk _ => put5_far _ w1.heap.size (.string smallN) (.slice A1 smallF.length c1) (.int .i64 1) (.slice A3 smallB.length c3) (.slice A4 smallT.length c4) k hk.1))
  clear HB Bge Bgf E1 E3 E4
  have HB := n_HB
  have Bge := n_Bge
  have Bgf := n_Bgf
  have E1 := n_E1
  have E3 := n_E3
  have E4 := n_E4
  clear n_HB n_Bge n_Bgf n_E1 n_E3 n_E4
  refine (small_own _).mono ?_
  rintro e w7 ⟨B1, d1, B3, d3, B4, d4, rfl, q1, _, q3, _, q4, _, hb⟩
  have lo_ := below_size HB.out
  have n_HB := Aside0.mk (below_step HB.out hb)
  have n_Bge := Aside0.mk (blk_below Bge.out hb)
  have n_Bgf := Aside0.mk (blk_below Bgf.out hb)
  have n_E1 := Aside0.mk (Kd.R_below E1.out hb)
  have n_E3 := Aside0.mk (Kd.R_below E3.out hb)
  have n_E4 := Aside0.mk (Kd.N_below E4.out hb)
  clear HB Bge Bgf E1 E3 E4
  have HB := n_HB
  have Bge := n_Bge
  have Bgf := n_Bgf
  have E1 := n_E1
  have E3 := n_E3
  have E4 := n_E4
  clear n_HB n_Bge n_Bgf n_E1 n_E3 n_E4
  have F1 := Aside0.mk (Kd.R_lower (Kd.R_mono (ok' := (fun k => k ≠ w1.heap.size ∧ k ≠ w2.heap.size)) (Kd.R_bound q1) (fun k hk => by have h1 := hk.2.1; (try simp only [World.size_alloc, World.size_setCell] at h1); have h2 := SZ.out; exact ⟨by omega, by omega⟩)) lo_)
  have F3 := Aside0.mk (Kd.R_lower (Kd.R_mono (ok' := (fun k => k ≠ w1.heap.size ∧ k ≠ w2.heap.size)) (Kd.R_bound q3) (fun k hk => by have h1 := hk.2.1; (try simp only [World.size_alloc, World.size_setCell] at h1); have h2 := SZ.out; exact ⟨by omega, by omega⟩)) lo_)
  have F4 := Aside0.mk (Kd.N_lower (Kd.N_mono (ok' := (fun k => k ≠ w1.heap.size ∧ k ≠ w2.heap.size)) q4 (fun k hk => by have h1 := hk; (try simp only [World.size_alloc, World.size_setCell] at h1); have h2 := SZ.out; exact ⟨by omega, by omega⟩)) lo_)
  clear q1 q3 q4 lo_
  have n_SZ := Aside0.mk (show w2.heap.size < w7.heap.size by have h1 := hb.size; (try simp only [World.size_alloc, World.size_setCell] at h1); have h2 := SZ.out; omega)
  clear SZ hb
  have SZ := n_SZ
  clear n_SZ
  have ha := blk5 (w := w7) Bge.out
  have hb5 := blk5 (w := w7) Bgf.out
  go_wp2_with (fail)
  clear ha hb5
  have n_HB := Aside0.mk (put5_below HB.out Ggf.out (.string smallN) (.slice B1 smallF.length d1) (.int .i64 1) (.slice B3 smallB.length d3) (.slice B4 smallT.length d4))
  have n_Bgf := Aside0.mk (put5_self Bgf.out (.string smallN) (.slice B1 smallF.length d1) (.int .i64 1) (.slice B3 smallB.length d3) (.slice B4 smallT.length d4))
  have n_Bge := Aside0.mk ((put5_far _ w2.heap.size (.string smallN) (.slice B1 smallF.length d1) (.int .i64 1) (.slice B3 smallB.length d3) (.slice B4 smallT.length d4) _ NE.out).trans Bge.out)
  have n_E1 := Aside0.mk (Kd.R_move E1.out (fun k hk => put5_far _ w2.heap.size (.string smallN) (.slice B1 smallF.length d1) (.int .i64 1) (.slice B3 smallB.length d3) (.slice B4 smallT.length d4) k hk.2))
  have n_E3 := Aside0.mk (Kd.R_move E3.out (fun k hk => put5_far _ w2.heap.size (.string smallN) (.slice B1 smallF.length d1) (.int .i64 1) (.slice B3 smallB.length d3) (.slice B4 smallT.length d4) k hk.2))
  have n_E4 := Aside0.mk (Kd.N_step E4.out (fun k hk _ => put5_far _ w2.heap.size (.string smallN) (.slice B1 smallF.length d1) (.int .i64 1) (.slice B3 smallB.length d3) (.slice B4 smallT.length d4) k hk.2))
  have n_F1 := Aside0.mk (Kd.R_move F1.out (fun k hk => put5_far _ w2.heap.size (.string smallN) (.slice B1 smallF.length d1) (.int .i64 1) (.slice B3 smallB.length d3) (.slice B4 smallT.length d4) k hk.2))
  have n_F3 := Aside0.mk (Kd.R_move F3.out (fun k hk => put5_far _ w2.heap.size (.string smallN) (.slice B1 smallF.length d1) (.int .i64 1) (.slice B3 smallB.length d3) (.slice B4 smallT.length d4) k hk.2))
  have n_F4 := Aside0.mk (Kd.N_step F4.out (fun k hk _ => put5_far _ w2.heap.size (.string smallN) (.slice B1 smallF.length d1) (.int .i64 1) (.slice B3 smallB.length d3) (.slice B4 smallT.length d4) k hk.2))
  clear HB Bgf Bge E1 E3 E4 F1 F3 F4
  have HB := n_HB
  have Bgf := n_Bgf
  have Bge := n_Bge
  have E1 := n_E1
  have E3 := n_E3
  have E4 := n_E4
  have F1 := n_F1
  have F3 := n_F3
  have F4 := n_F4
  clear n_HB n_Bgf n_Bge n_E1 n_E3 n_E4 n_F1 n_F3 n_F4
  clear F4
  go_loopg [3] 65536 (fun kq v3 w' => ∃ (z : Int) (n : Nat) (AT : Option Addr) (cT : Nat), v3 = .int .i64 z ∧ Aside0 (z = n) ∧ Aside0 (1 ≤ n ∧ n ≤ 65536) ∧ Aside0 (65536 - n < kq) ∧ Aside0 (w'.heap[w1.heap.size]? = some (.cells #[.string smallN, .slice A1 smallF.length c1, .int .i64 1, .slice A3 smallB.length c3, .slice AT n cT] 26 (0, 0))) ∧ Aside0 (w'.heap[w2.heap.size]? = some (.cells #[.string smallN, .slice B1 smallF.length d1, .int .i64 1, .slice B3 smallB.length d3, .slice B4 smallT.length d4] 26 (0, 0))) ∧ Aside0 (Below w.heap.size w w') ∧ Aside0 (w2.heap.size < w'.heap.size) ∧ Aside0 (Kd.R Kd.string 9 w' w.heap.size (fun k => k ≠ w1.heap.size ∧ k ≠ w2.heap.size) (.slice A1 smallF.length c1) smallF) ∧ Aside0 (Kd.R (Kd.int .i64) 2 w' w.heap.size (fun k => k ≠ w1.heap.size ∧ k ≠ w2.heap.size) (.slice A3 smallB.length c3) smallB) ∧ Aside0 (Kd.N k33 33 w' w.heap.size (fun k => k ≠ w1.heap.size ∧ k ≠ w2.heap.size) (.slice AT n cT) (List.replicate n (⟨0, [leaf5]⟩ : S33))) ∧ Aside0 (Kd.R Kd.string 9 w' w.heap.size (fun k => k ≠ w1.heap.size ∧ k ≠ w2.heap.size) (.slice B1 smallF.length d1) smallF) ∧ Aside0 (Kd.R (Kd.int .i64) 2 w' w.heap.size (fun k => k ≠ w1.heap.size ∧ k ≠ w2.heap.size) (.slice B3 smallB.length d3) smallB))
  case atStart => exact ⟨1, 1, A4, c4, rfl, ⟨rfl⟩, ⟨by decide⟩, ⟨by omega⟩, ⟨Bge.out⟩, ⟨Bgf.out⟩, ⟨HB.out⟩, ⟨by simp only [World.size_setCell]; exact SZ.out⟩, ⟨E1.out⟩, ⟨E3.out⟩, ⟨E4.out⟩, ⟨F1.out⟩, ⟨F3.out⟩⟩
  case round =>
    clear HB Bge Bgf SZ E1 E3 E4 F1 F3
    obtain ⟨z, n, AT, cT, rfl, hz, hn, hk, Bge, Bgf, HB, SZ, E1, E3, E4, F1, F3⟩ := hrel
    cases gk with
    | zero => exact absurd hk.out (by have := hn.out; omega)
    | succ k1 =>
      have hzz := hz.out
      have hnn := hn.out
      obtain ⟨g, cap, eA, gb_, gl_, cur_, hcur_⟩ := N_form E4.out (by rw [List.length_replicate]; omega)
      rw [List.length_replicate] at eA
      injection eA with eA _ eC
      subst eA
      subst eC
      obtain ⟨c_, hcl_, hFK, hcc, _⟩ := Kd.N_elem E4.out (⟨0, [leaf5]⟩ : S33) 0 (Int.le_refl _) (by omega)
      rw [show (List.replicate n (⟨0, [leaf5]⟩ : S33)).getD (0 : Int).toNat (⟨0, [leaf5]⟩ : S33) = (⟨0, [leaf5]⟩ : S33) by cases n with | zero => omega | succ m => rfl] at hFK
      obtain ⟨_, _, rfl, rfl, ⟨A5, c5, rfl, l5, g5⟩⟩ := Kd.FK_now hFK
      have ec0 := hcc 0 _ rfl
      have ec1 := hcc 1 _ rfl
      have FKT := Aside0.mk hFK
      have GB := Aside0.mk (⟨gb_, gl_⟩ : w.heap.size ≤ g ∧ g < wr.heap.size)
      have NEG := Aside0.mk (Kd.N_ne E4.out Bge.out (by decide))
      have NEF := Aside0.mk (Kd.N_ne E4.out Bgf.out (by decide))
      clear hcc hFK hcur_ hcl_ gb_ gl_ g5 l5
      by_cases hend : n = 65536
      · have cnd : decide (z < 65536) = false := decide_eq_false (by omega)
        obtain ⟨TS, hTS⟩ : ∃ TS, TS = List.replicate n (⟨0, [leaf5]⟩ : S33) := ⟨_, rfl⟩
        rw [← hTS] at E4
        have hln : n = TS.length := by rw [hTS, List.length_replicate]
        have c2_ := Aside0.mk (C2.out n hend)
        have n2_ := Aside0.mk (N2.out n hend)
        clear C2 N2
        have C2 := c2_
        have N2 := n2_
        clear c2_ n2_
        rw [← hTS] at C2 N2
        have st_ := Aside0.mk (ST.out n)
        have su_ := Aside0.mk (SU.out n)
        clear ST SU
        have ST := st_
        have SU := su_
        clear st_ su_
        rw [← hTS] at ST SU
        have HN := Aside0.mk (show TS.length = 65536 by omega)
        clear hz hn hk hzz hnn hTS hend
        subst hln
        have p0 : (0 < TS.length) = True := eq_true (by have := HN.out; omega)
        have ha := blk5 (w := wr) Bge.out
        go_wp2
        have C13 : wr.cell? ⟨w1.heap.size, 4, none⟩ = some (.slice (some ⟨g, 0, none⟩) TS.length cT) ∧ wr.cell? ⟨g, 0, none⟩ = some (.int .i64 0) ∧ wr.cell? ⟨g, 1, none⟩ = some (.slice A5 1 c5) := ⟨(blk_cell Bge.out 4).trans rfl, ec0, ec1⟩
        have FKB := Aside0.mk (Kd.FK_bound FKT.out)
        have OKF : wr.heap.size ≠ w1.heap.size ∧ wr.heap.size ≠ w2.heap.size := by have := SZ.out; exact ⟨by omega, by omega⟩
        have OKF1 : wr.heap.size + 1 ≠ w1.heap.size ∧ wr.heap.size + 1 ≠ w2.heap.size := by have := SZ.out; exact ⟨by omega, by omega⟩
        refine start_ (n := 12) (S := fun w' => w'.cell? ⟨w1.heap.size, 4, none⟩ = some (.slice (some ⟨g, 0, none⟩) TS.length cT) ∧ w'.cell? ⟨g, 0, none⟩ = some (.int .i64 0) ∧ w'.cell? ⟨g, 1, none⟩ = some (.slice A5 1 c5)) (ds := [9, 11]) #[false, false, false, false, false, false, false, false, false, false, false, false] (by kernel_rfl) rfl rfl ⟨((blk_cell (blk_drew Bge.out) 4).trans rfl), ec0, ec1⟩ (fun hHeld => ?_)
        refine pure_ (i := 1) (N := some 30) (v := ?_) (a' := ?_) #[false, true, false, false, false, false, false, false, false, false, false, false] rfl rfl (by kernel_rfl) (fun _ _ _ h => h) (Or.inl ⟨by rfl, ?_⟩) ?_ ?_
        rotate_left
        · intro w'
          go_simp
          with_reducible rfl
        rotate_left
        · simp only [Act.put, List.setIfInBounds_toArray, List.set_cons_zero, List.set_cons_succ, i64_w, i32_w]
          rfl
        refine pure_ (i := 4) (N := some 33) (v := ?_) (a' := ?_) #[false, true, false, false, true, false, false, false, false, false, false, false] rfl rfl (by kernel_rfl) (fun _ _ _ h => h) (Or.inl ⟨by rfl, ?_⟩) ?_ ?_
        rotate_left
        · intro w'
          go_simp
          with_reducible rfl
        rotate_left
        · simp only [Act.put, List.setIfInBounds_toArray, List.set_cons_zero, List.set_cons_succ, i64_w, i32_w]
          rfl
        refine take_ (i := 2) (N := some 31) (v := ?_) (a' := ?_) #[false, true, true, false, true, false, false, false, false, false, false, false] rfl rfl (by kernel_rfl) (fun _ _ _ h => h) (Or.inl ⟨by rfl, ?_⟩) hHeld ?_ ?_
        rotate_left
        · rintro w' ⟨s0, s1, s2⟩
          go_simp
          with_reducible rfl
        rotate_left
        · simp only [Act.put, List.setIfInBounds_toArray, List.set_cons_zero, List.set_cons_succ, i64_w, i32_w]
          rfl
        refine take_ (i := 5) (N := some 34) (v := ?_) (a' := ?_) #[false, true, true, false, true, true, false, false, false, false, false, false] rfl rfl (by kernel_rfl) (fun _ _ _ h => h) (Or.inl ⟨by rfl, ?_⟩) hHeld ?_ ?_
        rotate_left
        · rintro w' ⟨s0, s1, s2⟩
          go_simp
          with_reducible rfl
        rotate_left
        · simp only [Act.put, List.setIfInBounds_toArray, List.set_cons_zero, List.set_cons_succ, i64_w, i32_w]
          rfl
        refine pure_ (i := 6) (N := some 35) (v := ?_) (a' := ?_) #[false, true, true, false, true, true, true, false, false, false, false, false] rfl rfl (by kernel_rfl) (fun _ _ _ h => h) (Or.inl ⟨by rfl, ?_⟩) ?_ ?_
        rotate_left
        · intro w'
          go_simp
          with_reducible rfl
        rotate_left
        · simp only [Act.put, List.setIfInBounds_toArray, List.set_cons_zero, List.set_cons_succ, i64_w, i32_w]
          rfl
        refine take_ (i := 7) (N := some 36) (v := ?_) (a' := ?_) #[false, true, true, false, true, true, true, true, false, false, false, false] rfl rfl (by kernel_rfl) (fun _ _ _ h => h) (Or.inl ⟨by rfl, ?_⟩) hHeld ?_ ?_
        rotate_left
        · rintro w' ⟨s0, s1, s2⟩
          go_simp
          with_reducible rfl
        rotate_left
        · simp only [Act.put, List.setIfInBounds_toArray, List.set_cons_zero, List.set_cons_succ, i64_w, i32_w]
          rfl
        refine join_ (σ := Nat × Value × Nat) 3 #[true, true, true, true, true, true, true, true, true, false, false, false] (fun s_ => [(29, .slice (some ⟨s_.1, 0, none⟩) 0 0), (32, s_.2.1), (37, .slice (some ⟨s_.2.2, 0, none⟩) 1 1)]) (fun s_ w' => Kd.N k33 33 w' wr.heap.size (fun k => k ≠ w1.heap.size ∧ k ≠ w2.heap.size) s_.2.1 TS ∧ Kd.F k33 w' (fun k => (k ≠ w1.heap.size ∧ k ≠ w2.heap.size) ∧ some k ≠ s_.2.1.ownBlock) (some ⟨s_.2.2, 0, none⟩) 1 [(⟨0, [leaf5]⟩ : S33)] ∧ Below wr.heap.size wr w') ?_ ?_
        rotate_left
        · intro hCont
          refine two_ (i := 0) (j := 8) (Ni := some 29) (Nj := some 37) #[true, true, true, false, true, true, true, true, false, false, false, false] #[false, true, true, false, true, true, true, true, true, false, false, false] rfl rfl rfl rfl (by kernel_rfl) (by decide) (by decide) (fun K hK => ?_) (fun K hK => ?_)
          · skip
            refine valueR_ (w1 := ?_) (v := ?_) (by rfl) rfl ?_ ?_
            rotate_left 2
            · go_simp
              constructor
              · rfl
              · rfl
            refine hK.out _ _ ⟨(cellB (below_alloc (Below.refl _ _) _) hHeld.1), (cellB (below_alloc (Below.refl _ _) _) hHeld.2.1), (cellB (below_alloc (Below.refl _ _) _) hHeld.2.2)⟩ (fun hHeld => ?_)
            clear hK K
            refine norm_ (a' := ?_) ?_ ?_
            rotate_left
            · show Act.put _ (some 29) _ = _
              simp only [Act.put, List.setIfInBounds_toArray, List.set_cons_zero, List.set_cons_succ, i64_w, i32_w]
              rfl
            refine two_ (i := 3) (j := 8) (Ni := some 32) (Nj := some 37) #[true, true, true, true, true, true, true, true, false, false, false, false] #[true, true, true, false, true, true, true, true, true, false, false, false] rfl rfl rfl rfl (by kernel_rfl) (by decide) (by decide) (fun K hK => ?_) (fun K hK => ?_)
            · skip
              refine Kd.N_append_rows_step (W := (wr.drew.alloc (.cells #[] 33))) k33 (w0 := wr) wr.heap.size (by rfl) (.tmp 29) (.tmp 31) 24 33 (.agg #[.int .i64 0, .slice none 0 0]) 32 (by rfl) Tryd.underlying24 infoTREE rfl (by decide) (by decide) (.slice (some ⟨wr.heap.size, 0, none⟩) 0 0) [] TS (some ⟨g, 0, none⟩) TS.length cT (fun k => k ≠ w1.heap.size ∧ k ≠ w2.heap.size) (fun k => (k ≠ w1.heap.size ∧ k ≠ w2.heap.size) ∧ k < wr.heap.size) (by rfl) (by rfl) (N_empty wr.drew wr.heap.size wr.heap.size (fun k => k ≠ w1.heap.size ∧ k ≠ w2.heap.size) rfl (Nat.le_refl _) OKF) (Kd.N_F (Kd.N_alloc (Kd.N_drew (Kd.N_bound E4.out)) _)) (fun k hk => ⟨hk.1, fun he => by have h1 : wr.heap.size = k := (by simpa [Value.ownBlock] using he.symm); have h2 := hk.2; omega⟩) (fun k hk => by (try simp only [World.size_alloc] at hk); have h3 : wr.drew.heap.size = wr.heap.size := rfl; have h2 := SZ.out; exact ⟨by omega, by omega⟩) (below_alloc (below_drew (Below.refl wr.heap.size wr)) _) (below_size (below_alloc (below_drew (Below.refl wr.heap.size wr)) _)) (by have := HN.out; simp only [List.length_nil]; omega) ?_
              intro v3 w3 ho hb hg hat
              rw [List.nil_append] at ho
              have hb1 : Below wr.heap.size wr w3 := hb
              refine hK.out _ _ ⟨(cellB hb1 C13.1), (cellB hb1 C13.2.1), (cellB hb1 C13.2.2)⟩ (fun hHeld => ?_)
              clear hK K
              refine norm_ (a' := ?_) ?_ ?_
              rotate_left
              · show Act.put _ (some 32) _ = _
                simp only [Act.put, List.setIfInBounds_toArray, List.set_cons_zero, List.set_cons_succ, i64_w, i32_w]
                rfl
              refine one_ (i := 8) (N := some 37) #[true, true, true, true, true, true, true, true, true, false, false, false] rfl rfl (by kernel_rfl) (by decide) (fun K hK => ?_)
              refine valueR_ (w1 := ?_) (v := ?_) (by rfl) rfl ?_ ?_
              rotate_left 2
              · go_simp
                constructor
                · rfl
                · rfl
              refine hK.out _ _ ⟨(cellB (below_alloc (Below.refl _ _) _) hHeld.1), (cellB (below_alloc (Below.refl _ _) _) hHeld.2.1), (cellB (below_alloc (Below.refl _ _) _) hHeld.2.2)⟩ (fun hHeld => ?_)
              clear hK K
              refine norm_ (a' := ?_) ?_ ?_
              rotate_left
              · show Act.put _ (some 37) _ = _
                simp only [Act.put, List.setIfInBounds_toArray, List.set_cons_zero, List.set_cons_succ, i64_w, i32_w]
                rfl
              exact norm_ (by simp only [putAll, Act.put, List.setIfInBounds_toArray, List.set_cons_zero, List.set_cons_succ]) (hCont (wr.heap.size, v3, w3.heap.size) _ (close13a ho FKB.out hb1 SZ.out (by have := SZ.out; omega)))
            · skip
              refine valueR_ (w1 := ?_) (v := ?_) (by rfl) rfl ?_ ?_
              rotate_left 2
              · go_simp
                constructor
                · rfl
                · rfl
              refine hK.out _ _ ⟨(cellB (below_alloc (Below.refl _ _) _) hHeld.1), (cellB (below_alloc (Below.refl _ _) _) hHeld.2.1), (cellB (below_alloc (Below.refl _ _) _) hHeld.2.2)⟩ (fun hHeld => ?_)
              clear hK K
              refine norm_ (a' := ?_) ?_ ?_
              rotate_left
              · show Act.put _ (some 37) _ = _
                simp only [Act.put, List.setIfInBounds_toArray, List.set_cons_zero, List.set_cons_succ, i64_w, i32_w]
                rfl
              refine one_ (i := 3) (N := some 32) #[true, true, true, true, true, true, true, true, true, false, false, false] rfl rfl (by kernel_rfl) (by decide) (fun K hK => ?_)
              refine Kd.N_append_rows_step (W := ((wr.drew.alloc (.cells #[] 33)).alloc (.cells #[.int .i64 0, .slice A5 1 c5] 33))) k33 (w0 := wr) wr.heap.size (by rfl) (.tmp 29) (.tmp 31) 24 33 (.agg #[.int .i64 0, .slice none 0 0]) 32 (by rfl) Tryd.underlying24 infoTREE rfl (by decide) (by decide) (.slice (some ⟨wr.heap.size, 0, none⟩) 0 0) [] TS (some ⟨g, 0, none⟩) TS.length cT (fun k => k ≠ w1.heap.size ∧ k ≠ w2.heap.size) (fun k => (k ≠ w1.heap.size ∧ k ≠ w2.heap.size) ∧ k < wr.heap.size) (by rfl) (by rfl) (Kd.N_alloc (N_empty wr.drew wr.heap.size wr.heap.size (fun k => k ≠ w1.heap.size ∧ k ≠ w2.heap.size) rfl (Nat.le_refl _) OKF) _) (Kd.N_F (Kd.N_alloc (Kd.N_alloc (Kd.N_drew (Kd.N_bound E4.out)) _) _)) (fun k hk => ⟨hk.1, fun he => by have h1 : wr.heap.size = k := (by simpa [Value.ownBlock] using he.symm); have h2 := hk.2; omega⟩) (fun k hk => by (try simp only [World.size_alloc] at hk); have h3 : wr.drew.heap.size = wr.heap.size := rfl; have h2 := SZ.out; exact ⟨by omega, by omega⟩) (below_alloc (below_alloc (below_drew (Below.refl wr.heap.size wr)) _) _) (below_size (below_alloc (below_alloc (below_drew (Below.refl wr.heap.size wr)) _) _)) (by have := HN.out; simp only [List.length_nil]; omega) ?_
              intro v3 w3 ho hb hg hat
              rw [List.nil_append] at ho
              have hb1 : Below wr.heap.size wr w3 := hb
              refine hK.out _ _ ⟨(cellB hb1 C13.1), (cellB hb1 C13.2.1), (cellB hb1 C13.2.2)⟩ (fun hHeld => ?_)
              clear hK K
              refine norm_ (a' := ?_) ?_ ?_
              rotate_left
              · show Act.put _ (some 32) _ = _
                simp only [Act.put, List.setIfInBounds_toArray, List.set_cons_zero, List.set_cons_succ, i64_w, i32_w]
                rfl
              exact norm_ (by simp only [putAll, Act.put, List.setIfInBounds_toArray, List.set_cons_zero, List.set_cons_succ]) (hCont (wr.heap.size, v3, wr.heap.size + 1) _ (close13b wr.heap.size (wr.heap.size + 1) ho hb1 SZ.out (by have := SZ.out; omega) hg hat (F_lit (wr.drew.alloc (.cells #[] 33)) (wr.heap.size + 1) (World.size_alloc _ _) (Kd.FK_step FKB.out (fun k hk _ => Below.heap_alloc wr.drew _ k hk.2)) (fun k hk => by rw [World.size_alloc]; exact Nat.lt_succ_of_lt hk.2)) (by simp only [World.size_alloc]; have h3 : wr.drew.heap.size = wr.heap.size := rfl; omega) (by omega) (by omega) (by omega) (by omega)))
          · skip
            refine valueR_ (w1 := ?_) (v := ?_) (by rfl) rfl ?_ ?_
            rotate_left 2
            · go_simp
              constructor
              · rfl
              · rfl
            refine hK.out _ _ ⟨(cellB (below_alloc (Below.refl _ _) _) hHeld.1), (cellB (below_alloc (Below.refl _ _) _) hHeld.2.1), (cellB (below_alloc (Below.refl _ _) _) hHeld.2.2)⟩ (fun hHeld => ?_)
            clear hK K
            refine norm_ (a' := ?_) ?_ ?_
            rotate_left
            · show Act.put _ (some 37) _ = _
              simp only [Act.put, List.setIfInBounds_toArray, List.set_cons_zero, List.set_cons_succ, i64_w, i32_w]
              rfl
            refine one_ (i := 0) (N := some 29) #[true, true, true, false, true, true, true, true, true, false, false, false] rfl rfl (by kernel_rfl) (by decide) (fun K hK => ?_)
            refine valueR_ (w1 := ?_) (v := ?_) (by rfl) rfl ?_ ?_
            rotate_left 2
            · go_simp
              constructor
              · rfl
              · rfl
            refine hK.out _ _ ⟨(cellB (below_alloc (Below.refl _ _) _) hHeld.1), (cellB (below_alloc (Below.refl _ _) _) hHeld.2.1), (cellB (below_alloc (Below.refl _ _) _) hHeld.2.2)⟩ (fun hHeld => ?_)
            clear hK K
            refine norm_ (a' := ?_) ?_ ?_
            rotate_left
            · show Act.put _ (some 29) _ = _
              simp only [Act.put, List.setIfInBounds_toArray, List.set_cons_zero, List.set_cons_succ, i64_w, i32_w]
              rfl
            refine one_ (i := 3) (N := some 32) #[true, true, true, true, true, true, true, true, true, false, false, false] rfl rfl (by kernel_rfl) (by decide) (fun K hK => ?_)
            refine Kd.N_append_rows_step (W := ((wr.drew.alloc (.cells #[.int .i64 0, .slice A5 1 c5] 33)).alloc (.cells #[] 33))) k33 (w0 := wr) wr.heap.size (by rfl) (.tmp 29) (.tmp 31) 24 33 (.agg #[.int .i64 0, .slice none 0 0]) 32 (by rfl) Tryd.underlying24 infoTREE rfl (by decide) (by decide) (.slice (some ⟨(wr.heap.size + 1), 0, none⟩) 0 0) [] TS (some ⟨g, 0, none⟩) TS.length cT (fun k => k ≠ w1.heap.size ∧ k ≠ w2.heap.size) (fun k => (k ≠ w1.heap.size ∧ k ≠ w2.heap.size) ∧ k < wr.heap.size) (by rfl) (by rfl) (N_empty (wr.drew.alloc (.cells #[.int .i64 0, .slice A5 1 c5] 33)) (wr.heap.size + 1) wr.heap.size (fun k => k ≠ w1.heap.size ∧ k ≠ w2.heap.size) (World.size_alloc _ _) (by omega) OKF1) (Kd.N_F (Kd.N_alloc (Kd.N_alloc (Kd.N_drew (Kd.N_bound E4.out)) _) _)) (fun k hk => ⟨hk.1, fun he => by have h1 : (wr.heap.size + 1) = k := (by simpa [Value.ownBlock] using he.symm); have h2 := hk.2; omega⟩) (fun k hk => by (try simp only [World.size_alloc] at hk); have h3 : wr.drew.heap.size = wr.heap.size := rfl; have h2 := SZ.out; exact ⟨by omega, by omega⟩) (below_alloc (below_alloc (below_drew (Below.refl wr.heap.size wr)) _) _) (below_size (below_alloc (below_alloc (below_drew (Below.refl wr.heap.size wr)) _) _)) (by have := HN.out; simp only [List.length_nil]; omega) ?_
            intro v3 w3 ho hb hg hat
            rw [List.nil_append] at ho
            have hb1 : Below wr.heap.size wr w3 := hb
            refine hK.out _ _ ⟨(cellB hb1 C13.1), (cellB hb1 C13.2.1), (cellB hb1 C13.2.2)⟩ (fun hHeld => ?_)
            clear hK K
            refine norm_ (a' := ?_) ?_ ?_
            rotate_left
            · show Act.put _ (some 32) _ = _
              simp only [Act.put, List.setIfInBounds_toArray, List.set_cons_zero, List.set_cons_succ, i64_w, i32_w]
              rfl
            exact norm_ (by simp only [putAll, Act.put, List.setIfInBounds_toArray, List.set_cons_zero, List.set_cons_succ]) (hCont (wr.heap.size + 1, v3, wr.heap.size) _ (close13b (wr.heap.size + 1) wr.heap.size ho hb1 SZ.out (by have := SZ.out; omega) hg hat (F_step (F_lit wr.drew wr.heap.size rfl (Kd.FK_step FKB.out (fun k hk _ => rfl)) (fun k hk => hk.2)) (fun k hk hlt => Below.heap_alloc _ _ k hlt)) (by simp only [World.size_alloc]; have h3 : wr.drew.heap.size = wr.heap.size := rfl; omega) (by omega) (by omega) (by omega) (by omega)))
        rintro ⟨b0_, v13, b8_⟩ w13 ⟨ho, hf, hb⟩
        have N13 := Aside0.mk ho
        have F13 := Aside0.mk hf
        have HB13 := Aside0.mk hb
        clear ho hf hb
        have hHeld : w13.cell? ⟨w1.heap.size, 4, none⟩ = some (.slice (some ⟨g, 0, none⟩) TS.length cT) ∧ w13.cell? ⟨g, 0, none⟩ = some (.int .i64 0) ∧ w13.cell? ⟨g, 1, none⟩ = some (.slice A5 1 c5) := ⟨cellB HB13.out C13.1, cellB HB13.out C13.2.1, cellB HB13.out C13.2.2⟩
        refine norm_ (a' := ?_) ?_ ?_
        rotate_left
        · simp only [putAll, Act.put, List.setIfInBounds_toArray, List.set_cons_zero, List.set_cons_succ]
          rfl
        refine lastR_ (i := 9) (N := some 38) #[true, true, true, true, true, true, true, true, true, true, false, false] rfl rfl (by kernel_rfl) (by decide) (fun K hK => ?_)
        refine Kd.N_append_rows_step (W := w13) k33 (w0 := wr) wr.heap.size (by rfl) (.tmp 32) (.tmp 37) 24 33 (.agg #[.int .i64 0, .slice none 0 0]) 32 (by rfl) Tryd.underlying24 infoTREE rfl (by decide) (by decide) v13 TS [(⟨0, [leaf5]⟩ : S33)] (some ⟨b8_, 0, none⟩) 1 1 (fun k => k ≠ w1.heap.size ∧ k ≠ w2.heap.size) _ (by rfl) (by rfl) N13.out F13.out (fun k hk => hk) (fun k hk => by have h1 := HB13.out.size; have h2 := SZ.out; exact ⟨by omega, by omega⟩) HB13.out HB13.out.size (by have := HN.out; omega) ?_
        intro v14 w14 ho hb hg hat
        obtain ⟨US, hUS⟩ : ∃ US, US = TS ++ [(⟨0, [leaf5]⟩ : S33)] := ⟨_, rfl⟩
        replace N2 := N2.out
        replace SU := SU.out
        rw [← hUS] at ho N2 SU
        replace N2 := Aside0.mk N2
        replace SU := Aside0.mk SU
        clear hUS
        obtain ⟨A14, c14, e14⟩ := Kd.N_slice ho
        subst e14
        have N14 := Aside0.mk ho
        have HB14 := Aside0.mk hb
        have hb5 := blk5 (w := w14) (blk_below Bgf.out hb)
        clear ho hb hg hat C13 hHeld ha
        refine hK.out _ _ ?_
        clear hK K
        refine norm_ (a' := ?_) ?_ ?_
        rotate_left
        · show Act.put _ (some 38) _ = _
          simp only [Act.put, List.setIfInBounds_toArray, List.set_cons_zero, List.set_cons_succ, i64_w, i32_w]
          rfl
        refine pure_ (i := 10) (N := some 39) (v := ?_) (a' := ?_) #[true, true, true, true, true, true, true, true, true, true, true, false] rfl rfl (by kernel_rfl) (fun _ _ _ h => h) (Or.inl ⟨by rfl, ?_⟩) ?_ ?_
        rotate_left
        · intro w'
          go_simp
          with_reducible rfl
        rotate_left
        · simp only [Act.put, List.setIfInBounds_toArray, List.set_cons_zero, List.set_cons_succ, i64_w, i32_w]
          rfl
        refine lastR_ (i := 11) (N := none) #[true, true, true, true, true, true, true, true, true, true, true, true] rfl rfl (by kernel_rfl) (by decide) (fun K hK => ?_)
        refine skipR_ (w1 := ?_) (by rfl) rfl ?_ ?_
        rotate_left
        · go_simp
          rfl
        refine hK.out _ _ ?_
        clear hK K
        refine done_ (by kernel_rfl) ?_

        clear hb5 FKB OKF OKF1 N13 F13 HB13 NEG NEF GB FKT ec0 ec1 p0
        have hb := HB14.out
        have lo_ := below_size HB.out
        clear HB14
        have n_HB := Aside0.mk (below_step HB.out hb)
        have n_Bge := Aside0.mk (blk_below Bge.out hb)
        have n_Bgf := Aside0.mk (blk_below Bgf.out hb)
        have n_E1 := Aside0.mk (Kd.R_below E1.out hb)
        have n_E3 := Aside0.mk (Kd.R_below E3.out hb)
        have n_E4 := Aside0.mk (Kd.N_below E4.out hb)
        have n_F1 := Aside0.mk (Kd.R_below F1.out hb)
        have n_F3 := Aside0.mk (Kd.R_below F3.out hb)
        clear HB Bge Bgf E1 E3 E4 F1 F3
        have HB := n_HB
        have Bge := n_Bge
        have Bgf := n_Bgf
        have E1 := n_E1
        have E3 := n_E3
        have E4 := n_E4
        have F1 := n_F1
        have F3 := n_F3
        clear n_HB n_Bge n_Bgf n_E1 n_E3 n_E4 n_F1 n_F3
        have F4 := Aside0.mk (Kd.N_lower N14.out lo_)
        clear N14 lo_
        have n_SZ := Aside0.mk (show w2.heap.size < w14.heap.size by have h1 := hb.size; (try simp only [World.size_alloc, World.size_setCell] at h1); have h2 := SZ.out; omega)
        clear SZ hb
        have SZ := n_SZ
        clear n_SZ
        have ha := blk5 (w := w14) Bge.out
        have hb5 := blk5 (w := w14) Bgf.out
        go_wp2_with (fail)
        clear ha hb5
        have n_HB := Aside0.mk (below_set (g := w2.heap.size) (j := 4) (v := .slice A14 US.length c14) HB.out Ggf.out)
        have n_Bgf := Aside0.mk (blk_put Bgf.out 4 (.slice A14 US.length c14) rfl)
        have n_Bge := Aside0.mk (blk_far (p := ⟨w2.heap.size, 4, none⟩) Bge.out NE.out (.slice A14 US.length c14))
        have n_E1 := Aside0.mk (Kd.R_move E1.out (fun k hk => Below.heap_setCell w14 ⟨w2.heap.size, 4, none⟩ (.slice A14 US.length c14) k hk.2))
        have n_E3 := Aside0.mk (Kd.R_move E3.out (fun k hk => Below.heap_setCell w14 ⟨w2.heap.size, 4, none⟩ (.slice A14 US.length c14) k hk.2))
        have n_E4 := Aside0.mk (Kd.N_far (p := ⟨w2.heap.size, 4, none⟩) E4.out (fun k hk => hk.2) (.slice A14 US.length c14))
        have n_F1 := Aside0.mk (Kd.R_move F1.out (fun k hk => Below.heap_setCell w14 ⟨w2.heap.size, 4, none⟩ (.slice A14 US.length c14) k hk.2))
        have n_F3 := Aside0.mk (Kd.R_move F3.out (fun k hk => Below.heap_setCell w14 ⟨w2.heap.size, 4, none⟩ (.slice A14 US.length c14) k hk.2))
        have n_F4 := Aside0.mk (Kd.N_far (p := ⟨w2.heap.size, 4, none⟩) F4.out (fun k hk => hk.2) (.slice A14 US.length c14))
        clear HB Bgf Bge E1 E3 E4 F1 F3 F4
        have HB := n_HB
        have Bgf := n_Bgf
        have Bge := n_Bge
        have E1 := n_E1
        have E3 := n_E3
        have E4 := n_E4
        have F1 := n_F1
        have F3 := n_F3
        have F4 := n_F4
        clear n_HB n_Bgf n_Bge n_E1 n_E3 n_E4 n_F1 n_F3 n_F4
        have ZF : Aside0 (∀ s ∈ smallF, s.size ≤ maxLen) := ⟨sizes_small⟩
        refine (at_true smallN A1 c1 smallF 1 A3 c3 smallB (some ⟨g, 0, none⟩) cT TS smallN B1 d1 smallF 1 B3 d3 smallB A14 c14 US _ ⟨tab_below htab.out (kB0 HB)⟩ ⟨(Kd.R_reads' E1.out).2.2⟩ ZF ⟨(Kd.R_reads' E3.out).2.2⟩ ⟨(Kd.N_reads' E4.out).2.2⟩ ST ⟨(Kd.R_reads' F1.out).2.2⟩ ZF ⟨(Kd.R_reads' F3.out).2.2⟩ ⟨(Kd.N_reads' F4.out).2.2⟩ SU 7 _ _ C2 N2).mono ?_
        rintro e w15 ⟨rfl, hb⟩
        have n_HB := Aside0.mk (below_step HB.out hb)
        have n_Bge := Aside0.mk (blk_below Bge.out hb)
        have n_Bgf := Aside0.mk (blk_below Bgf.out hb)
        have n_E1 := Aside0.mk (Kd.R_below E1.out hb)
        have n_E3 := Aside0.mk (Kd.R_below E3.out hb)
        have n_E4 := Aside0.mk (Kd.N_below E4.out hb)
        have n_F1 := Aside0.mk (Kd.R_below F1.out hb)
        have n_F3 := Aside0.mk (Kd.R_below F3.out hb)
        have n_F4 := Aside0.mk (Kd.N_below F4.out hb)
        clear HB Bge Bgf E1 E3 E4 F1 F3 F4
        have HB := n_HB
        have Bge := n_Bge
        have Bgf := n_Bgf
        have E1 := n_E1
        have E3 := n_E3
        have E4 := n_E4
        have F1 := n_F1
        have F3 := n_F3
        have F4 := n_F4
        clear n_HB n_Bge n_Bgf n_E1 n_E3 n_E4 n_F1 n_F3 n_F4
        have n_SZ := Aside0.mk (show w2.heap.size < w15.heap.size by have h1 := hb.size; (try simp only [World.size_alloc, World.size_setCell] at h1); have h2 := SZ.out; omega)
        clear SZ hb
        have SZ := n_SZ
        clear n_SZ
        have ha := blk5 (w := w15) Bge.out
        have hb5 := blk5 (w := w15) Bgf.out
        go_wp2_with (fail)
        clear ha hb5 E1 E3 E4 F1 F3 F4 ST SU C2 N2
        obtain ⟨sA, hs_⟩ : ∃ s_ : Nat, w15.heap.size = s_ := ⟨_, rfl⟩
        have hge_ : w1.heap.size < sA := by have := SZ.out; omega
        have hgf_ : w2.heap.size < sA := by have := SZ.out; omega
        have LO := Aside0.mk (show w.heap.size ≤ sA by have := below_size HB.out; omega)
        refine (small_blk _ sA hs_).mono ?_
        rintro e w16 ⟨rfl, hz_, hs3, hb⟩
        clear SZ hs_
        have n_HB := Aside0.mk (below_step HB.out hb)
        have n_Bge := Aside0.mk (blk_below Bge.out hb)
        have n_Bgf := Aside0.mk (blk_below Bgf.out hb)
        clear HB Bge Bgf
        have HB := n_HB
        have Bge := n_Bge
        have Bgf := n_Bgf
        clear n_HB n_Bge n_Bgf
        have X1 := Aside0.mk hs3.b1
        have X2 := Aside0.mk hs3.b2
        have X3 := Aside0.mk hs3.b3
        have X4 := Aside0.mk hs3.b4
        clear hs3 hb
        have ha := blk5 (w := w16) Bge.out
        go_wp2_with (fail)
        clear ha
        have n_HB := Aside0.mk (show Below w.heap.size w (World.setCell (World.setCell (World.setCell (World.setCell (World.setCell w16 ⟨w1.heap.size, 0, none⟩ (.string smallN)) ⟨w1.heap.size, 1, none⟩ (.slice (some ⟨sA + 1, 0, none⟩) 1 1)) ⟨w1.heap.size, 2, none⟩ (.int .i64 1)) ⟨w1.heap.size, 3, none⟩ (.slice (some ⟨sA + 2, 0, none⟩) 1 1)) ⟨w1.heap.size, 4, none⟩ (.slice (some ⟨sA + 4, 0, none⟩) 1 1)) from put5_below HB.out (by have := Gge.out; have := Ggf.out; omega) (.string smallN) (.slice (some ⟨sA + 1, 0, none⟩) 1 1) (.int .i64 1) (.slice (some ⟨sA + 2, 0, none⟩) 1 1) (.slice (some ⟨sA + 4, 0, none⟩) 1 1))
        have n_Bge := Aside0.mk (show ((World.setCell (World.setCell (World.setCell (World.setCell (World.setCell w16 ⟨w1.heap.size, 0, none⟩ (.string smallN)) ⟨w1.heap.size, 1, none⟩ (.slice (some ⟨sA + 1, 0, none⟩) 1 1)) ⟨w1.heap.size, 2, none⟩ (.int .i64 1)) ⟨w1.heap.size, 3, none⟩ (.slice (some ⟨sA + 2, 0, none⟩) 1 1)) ⟨w1.heap.size, 4, none⟩ (.slice (some ⟨sA + 4, 0, none⟩) 1 1))).heap[w1.heap.size]? = some (.cells #[.string smallN, .slice (some ⟨sA + 1, 0, none⟩) 1 1, .int .i64 1, .slice (some ⟨sA + 2, 0, none⟩) 1 1, .slice (some ⟨sA + 4, 0, none⟩) 1 1] 26 (0, 0)) from put5_self Bge.out (.string smallN) (.slice (some ⟨sA + 1, 0, none⟩) 1 1) (.int .i64 1) (.slice (some ⟨sA + 2, 0, none⟩) 1 1) (.slice (some ⟨sA + 4, 0, none⟩) 1 1))
        have n_Bgf := Aside0.mk (show ((World.setCell (World.setCell (World.setCell (World.setCell (World.setCell w16 ⟨w1.heap.size, 0, none⟩ (.string smallN)) ⟨w1.heap.size, 1, none⟩ (.slice (some ⟨sA + 1, 0, none⟩) 1 1)) ⟨w1.heap.size, 2, none⟩ (.int .i64 1)) ⟨w1.heap.size, 3, none⟩ (.slice (some ⟨sA + 2, 0, none⟩) 1 1)) ⟨w1.heap.size, 4, none⟩ (.slice (some ⟨sA + 4, 0, none⟩) 1 1))).heap[w2.heap.size]? = _ from (put5_far _ w1.heap.size (.string smallN) (.slice (some ⟨sA + 1, 0, none⟩) 1 1) (.int .i64 1) (.slice (some ⟨sA + 2, 0, none⟩) 1 1) (.slice (some ⟨sA + 4, 0, none⟩) 1 1) (w2.heap.size) (show w2.heap.size ≠ w1.heap.size by omega)).trans Bgf.out)
        have n_X1 := Aside0.mk (show ((World.setCell (World.setCell (World.setCell (World.setCell (World.setCell w16 ⟨w1.heap.size, 0, none⟩ (.string smallN)) ⟨w1.heap.size, 1, none⟩ (.slice (some ⟨sA + 1, 0, none⟩) 1 1)) ⟨w1.heap.size, 2, none⟩ (.int .i64 1)) ⟨w1.heap.size, 3, none⟩ (.slice (some ⟨sA + 2, 0, none⟩) 1 1)) ⟨w1.heap.size, 4, none⟩ (.slice (some ⟨sA + 4, 0, none⟩) 1 1))).heap[sA + 1]? = _ from (put5_far _ w1.heap.size (.string smallN) (.slice (some ⟨sA + 1, 0, none⟩) 1 1) (.int .i64 1) (.slice (some ⟨sA + 2, 0, none⟩) 1 1) (.slice (some ⟨sA + 4, 0, none⟩) 1 1) (sA + 1) (show sA + 1 ≠ w1.heap.size by omega)).trans X1.out)
        have n_X2 := Aside0.mk (show ((World.setCell (World.setCell (World.setCell (World.setCell (World.setCell w16 ⟨w1.heap.size, 0, none⟩ (.string smallN)) ⟨w1.heap.size, 1, none⟩ (.slice (some ⟨sA + 1, 0, none⟩) 1 1)) ⟨w1.heap.size, 2, none⟩ (.int .i64 1)) ⟨w1.heap.size, 3, none⟩ (.slice (some ⟨sA + 2, 0, none⟩) 1 1)) ⟨w1.heap.size, 4, none⟩ (.slice (some ⟨sA + 4, 0, none⟩) 1 1))).heap[sA + 2]? = _ from (put5_far _ w1.heap.size (.string smallN) (.slice (some ⟨sA + 1, 0, none⟩) 1 1) (.int .i64 1) (.slice (some ⟨sA + 2, 0, none⟩) 1 1) (.slice (some ⟨sA + 4, 0, none⟩) 1 1) (sA + 2) (show sA + 2 ≠ w1.heap.size by omega)).trans X2.out)
        have n_X3 := Aside0.mk (show ((World.setCell (World.setCell (World.setCell (World.setCell (World.setCell w16 ⟨w1.heap.size, 0, none⟩ (.string smallN)) ⟨w1.heap.size, 1, none⟩ (.slice (some ⟨sA + 1, 0, none⟩) 1 1)) ⟨w1.heap.size, 2, none⟩ (.int .i64 1)) ⟨w1.heap.size, 3, none⟩ (.slice (some ⟨sA + 2, 0, none⟩) 1 1)) ⟨w1.heap.size, 4, none⟩ (.slice (some ⟨sA + 4, 0, none⟩) 1 1))).heap[sA + 3]? = _ from (put5_far _ w1.heap.size (.string smallN) (.slice (some ⟨sA + 1, 0, none⟩) 1 1) (.int .i64 1) (.slice (some ⟨sA + 2, 0, none⟩) 1 1) (.slice (some ⟨sA + 4, 0, none⟩) 1 1) (sA + 3) (show sA + 3 ≠ w1.heap.size by omega)).trans X3.out)
        have n_X4 := Aside0.mk (show ((World.setCell (World.setCell (World.setCell (World.setCell (World.setCell w16 ⟨w1.heap.size, 0, none⟩ (.string smallN)) ⟨w1.heap.size, 1, none⟩ (.slice (some ⟨sA + 1, 0, none⟩) 1 1)) ⟨w1.heap.size, 2, none⟩ (.int .i64 1)) ⟨w1.heap.size, 3, none⟩ (.slice (some ⟨sA + 2, 0, none⟩) 1 1)) ⟨w1.heap.size, 4, none⟩ (.slice (some ⟨sA + 4, 0, none⟩) 1 1))).heap[sA + 4]? = _ from (put5_far _ w1.heap.size (.string smallN) (.slice (some ⟨sA + 1, 0, none⟩) 1 1) (.int .i64 1) (.slice (some ⟨sA + 2, 0, none⟩) 1 1) (.slice (some ⟨sA + 4, 0, none⟩) 1 1) (sA + 4) (show sA + 4 ≠ w1.heap.size by omega)).trans X4.out)
        clear HB Bge Bgf X1 X2 X3 X4
        have HB := n_HB
        have Bge := n_Bge
        have Bgf := n_Bgf
        have X1 := n_X1
        have X2 := n_X2
        have X3 := n_X3
        have X4 := n_X4
        clear n_HB n_Bge n_Bgf n_X1 n_X2 n_X3 n_X4
        refine (small_blk _ (sA + 5) (by simp only [World.size_setCell]; exact hz_)).mono ?_
        rintro e w17 ⟨rfl, hz2_, hs3, hb⟩
        have n_HB := Aside0.mk (below_step HB.out hb)
        have n_Bge := Aside0.mk (blk_below Bge.out hb)
        have n_Bgf := Aside0.mk (blk_below Bgf.out hb)
        have n_X1 := Aside0.mk (blk_below X1.out hb)
        have n_X2 := Aside0.mk (blk_below X2.out hb)
        have n_X3 := Aside0.mk (blk_below X3.out hb)
        have n_X4 := Aside0.mk (blk_below X4.out hb)
        clear HB Bge Bgf X1 X2 X3 X4
        have HB := n_HB
        have Bge := n_Bge
        have Bgf := n_Bgf
        have X1 := n_X1
        have X2 := n_X2
        have X3 := n_X3
        have X4 := n_X4
        clear n_HB n_Bge n_Bgf n_X1 n_X2 n_X3 n_X4
        have Y1 := Aside0.mk hs3.b1
        have Y2 := Aside0.mk hs3.b2
        have Y3 := Aside0.mk hs3.b3
        have Y4 := Aside0.mk hs3.b4
        clear hs3 hb hz_
        have hb5 := blk5 (w := w17) Bgf.out
        go_wp2
        clear hb5
        have n_HB := Aside0.mk (show Below w.heap.size w (World.setCell (World.setCell (World.setCell (World.setCell (World.setCell w17 ⟨w2.heap.size, 0, none⟩ (.string smallN)) ⟨w2.heap.size, 1, none⟩ (.slice (some ⟨sA + 5 + 1, 0, none⟩) 1 1)) ⟨w2.heap.size, 2, none⟩ (.int .i64 1)) ⟨w2.heap.size, 3, none⟩ (.slice (some ⟨sA + 5 + 2, 0, none⟩) 1 1)) ⟨w2.heap.size, 4, none⟩ (.slice (some ⟨sA + 5 + 4, 0, none⟩) 1 1)) from put5_below HB.out (by have := Gge.out; have := Ggf.out; omega) (.string smallN) (.slice (some ⟨sA + 5 + 1, 0, none⟩) 1 1) (.int .i64 1) (.slice (some ⟨sA + 5 + 2, 0, none⟩) 1 1) (.slice (some ⟨sA + 5 + 4, 0, none⟩) 1 1))
        have n_Bge := Aside0.mk (show ((World.setCell (World.setCell (World.setCell (World.setCell (World.setCell w17 ⟨w2.heap.size, 0, none⟩ (.string smallN)) ⟨w2.heap.size, 1, none⟩ (.slice (some ⟨sA + 5 + 1, 0, none⟩) 1 1)) ⟨w2.heap.size, 2, none⟩ (.int .i64 1)) ⟨w2.heap.size, 3, none⟩ (.slice (some ⟨sA + 5 + 2, 0, none⟩) 1 1)) ⟨w2.heap.size, 4, none⟩ (.slice (some ⟨sA + 5 + 4, 0, none⟩) 1 1))).heap[w1.heap.size]? = _ from (put5_far _ w2.heap.size (.string smallN) (.slice (some ⟨sA + 5 + 1, 0, none⟩) 1 1) (.int .i64 1) (.slice (some ⟨sA + 5 + 2, 0, none⟩) 1 1) (.slice (some ⟨sA + 5 + 4, 0, none⟩) 1 1) (w1.heap.size) (show w1.heap.size ≠ w2.heap.size by omega)).trans Bge.out)
        have n_Bgf := Aside0.mk (show ((World.setCell (World.setCell (World.setCell (World.setCell (World.setCell w17 ⟨w2.heap.size, 0, none⟩ (.string smallN)) ⟨w2.heap.size, 1, none⟩ (.slice (some ⟨sA + 5 + 1, 0, none⟩) 1 1)) ⟨w2.heap.size, 2, none⟩ (.int .i64 1)) ⟨w2.heap.size, 3, none⟩ (.slice (some ⟨sA + 5 + 2, 0, none⟩) 1 1)) ⟨w2.heap.size, 4, none⟩ (.slice (some ⟨sA + 5 + 4, 0, none⟩) 1 1))).heap[w2.heap.size]? = some (.cells #[.string smallN, .slice (some ⟨sA + 5 + 1, 0, none⟩) 1 1, .int .i64 1, .slice (some ⟨sA + 5 + 2, 0, none⟩) 1 1, .slice (some ⟨sA + 5 + 4, 0, none⟩) 1 1] 26 (0, 0)) from put5_self Bgf.out (.string smallN) (.slice (some ⟨sA + 5 + 1, 0, none⟩) 1 1) (.int .i64 1) (.slice (some ⟨sA + 5 + 2, 0, none⟩) 1 1) (.slice (some ⟨sA + 5 + 4, 0, none⟩) 1 1))
        have n_X1 := Aside0.mk (show ((World.setCell (World.setCell (World.setCell (World.setCell (World.setCell w17 ⟨w2.heap.size, 0, none⟩ (.string smallN)) ⟨w2.heap.size, 1, none⟩ (.slice (some ⟨sA + 5 + 1, 0, none⟩) 1 1)) ⟨w2.heap.size, 2, none⟩ (.int .i64 1)) ⟨w2.heap.size, 3, none⟩ (.slice (some ⟨sA + 5 + 2, 0, none⟩) 1 1)) ⟨w2.heap.size, 4, none⟩ (.slice (some ⟨sA + 5 + 4, 0, none⟩) 1 1))).heap[sA + 1]? = _ from (put5_far _ w2.heap.size (.string smallN) (.slice (some ⟨sA + 5 + 1, 0, none⟩) 1 1) (.int .i64 1) (.slice (some ⟨sA + 5 + 2, 0, none⟩) 1 1) (.slice (some ⟨sA + 5 + 4, 0, none⟩) 1 1) (sA + 1) (show sA + 1 ≠ w2.heap.size by omega)).trans X1.out)
        have n_X2 := Aside0.mk (show ((World.setCell (World.setCell (World.setCell (World.setCell (World.setCell w17 ⟨w2.heap.size, 0, none⟩ (.string smallN)) ⟨w2.heap.size, 1, none⟩ (.slice (some ⟨sA + 5 + 1, 0, none⟩) 1 1)) ⟨w2.heap.size, 2, none⟩ (.int .i64 1)) ⟨w2.heap.size, 3, none⟩ (.slice (some ⟨sA + 5 + 2, 0, none⟩) 1 1)) ⟨w2.heap.size, 4, none⟩ (.slice (some ⟨sA + 5 + 4, 0, none⟩) 1 1))).heap[sA + 2]? = _ from (put5_far _ w2.heap.size (.string smallN) (.slice (some ⟨sA + 5 + 1, 0, none⟩) 1 1) (.int .i64 1) (.slice (some ⟨sA + 5 + 2, 0, none⟩) 1 1) (.slice (some ⟨sA + 5 + 4, 0, none⟩) 1 1) (sA + 2) (show sA + 2 ≠ w2.heap.size by omega)).trans X2.out)
        have n_X3 := Aside0.mk (show ((World.setCell (World.setCell (World.setCell (World.setCell (World.setCell w17 ⟨w2.heap.size, 0, none⟩ (.string smallN)) ⟨w2.heap.size, 1, none⟩ (.slice (some ⟨sA + 5 + 1, 0, none⟩) 1 1)) ⟨w2.heap.size, 2, none⟩ (.int .i64 1)) ⟨w2.heap.size, 3, none⟩ (.slice (some ⟨sA + 5 + 2, 0, none⟩) 1 1)) ⟨w2.heap.size, 4, none⟩ (.slice (some ⟨sA + 5 + 4, 0, none⟩) 1 1))).heap[sA + 3]? = _ from (put5_far _ w2.heap.size (.string smallN) (.slice (some ⟨sA + 5 + 1, 0, none⟩) 1 1) (.int .i64 1) (.slice (some ⟨sA + 5 + 2, 0, none⟩) 1 1) (.slice (some ⟨sA + 5 + 4, 0, none⟩) 1 1) (sA + 3) (show sA + 3 ≠ w2.heap.size by omega)).trans X3.out)
        have n_X4 := Aside0.mk (show ((World.setCell (World.setCell (World.setCell (World.setCell (World.setCell w17 ⟨w2.heap.size, 0, none⟩ (.string smallN)) ⟨w2.heap.size, 1, none⟩ (.slice (some ⟨sA + 5 + 1, 0, none⟩) 1 1)) ⟨w2.heap.size, 2, none⟩ (.int .i64 1)) ⟨w2.heap.size, 3, none⟩ (.slice (some ⟨sA + 5 + 2, 0, none⟩) 1 1)) ⟨w2.heap.size, 4, none⟩ (.slice (some ⟨sA + 5 + 4, 0, none⟩) 1 1))).heap[sA + 4]? = _ from (put5_far _ w2.heap.size (.string smallN) (.slice (some ⟨sA + 5 + 1, 0, none⟩) 1 1) (.int .i64 1) (.slice (some ⟨sA + 5 + 2, 0, none⟩) 1 1) (.slice (some ⟨sA + 5 + 4, 0, none⟩) 1 1) (sA + 4) (show sA + 4 ≠ w2.heap.size by omega)).trans X4.out)
        have n_Y1 := Aside0.mk (show ((World.setCell (World.setCell (World.setCell (World.setCell (World.setCell w17 ⟨w2.heap.size, 0, none⟩ (.string smallN)) ⟨w2.heap.size, 1, none⟩ (.slice (some ⟨sA + 5 + 1, 0, none⟩) 1 1)) ⟨w2.heap.size, 2, none⟩ (.int .i64 1)) ⟨w2.heap.size, 3, none⟩ (.slice (some ⟨sA + 5 + 2, 0, none⟩) 1 1)) ⟨w2.heap.size, 4, none⟩ (.slice (some ⟨sA + 5 + 4, 0, none⟩) 1 1))).heap[sA + 5 + 1]? = _ from (put5_far _ w2.heap.size (.string smallN) (.slice (some ⟨sA + 5 + 1, 0, none⟩) 1 1) (.int .i64 1) (.slice (some ⟨sA + 5 + 2, 0, none⟩) 1 1) (.slice (some ⟨sA + 5 + 4, 0, none⟩) 1 1) (sA + 5 + 1) (show sA + 5 + 1 ≠ w2.heap.size by omega)).trans Y1.out)
        have n_Y2 := Aside0.mk (show ((World.setCell (World.setCell (World.setCell (World.setCell (World.setCell w17 ⟨w2.heap.size, 0, none⟩ (.string smallN)) ⟨w2.heap.size, 1, none⟩ (.slice (some ⟨sA + 5 + 1, 0, none⟩) 1 1)) ⟨w2.heap.size, 2, none⟩ (.int .i64 1)) ⟨w2.heap.size, 3, none⟩ (.slice (some ⟨sA + 5 + 2, 0, none⟩) 1 1)) ⟨w2.heap.size, 4, none⟩ (.slice (some ⟨sA + 5 + 4, 0, none⟩) 1 1))).heap[sA + 5 + 2]? = _ from (put5_far _ w2.heap.size (.string smallN) (.slice (some ⟨sA + 5 + 1, 0, none⟩) 1 1) (.int .i64 1) (.slice (some ⟨sA + 5 + 2, 0, none⟩) 1 1) (.slice (some ⟨sA + 5 + 4, 0, none⟩) 1 1) (sA + 5 + 2) (show sA + 5 + 2 ≠ w2.heap.size by omega)).trans Y2.out)
        have n_Y3 := Aside0.mk (show ((World.setCell (World.setCell (World.setCell (World.setCell (World.setCell w17 ⟨w2.heap.size, 0, none⟩ (.string smallN)) ⟨w2.heap.size, 1, none⟩ (.slice (some ⟨sA + 5 + 1, 0, none⟩) 1 1)) ⟨w2.heap.size, 2, none⟩ (.int .i64 1)) ⟨w2.heap.size, 3, none⟩ (.slice (some ⟨sA + 5 + 2, 0, none⟩) 1 1)) ⟨w2.heap.size, 4, none⟩ (.slice (some ⟨sA + 5 + 4, 0, none⟩) 1 1))).heap[sA + 5 + 3]? = _ from (put5_far _ w2.heap.size (.string smallN) (.slice (some ⟨sA + 5 + 1, 0, none⟩) 1 1) (.int .i64 1) (.slice (some ⟨sA + 5 + 2, 0, none⟩) 1 1) (.slice (some ⟨sA + 5 + 4, 0, none⟩) 1 1) (sA + 5 + 3) (show sA + 5 + 3 ≠ w2.heap.size by omega)).trans Y3.out)
        have n_Y4 := Aside0.mk (show ((World.setCell (World.setCell (World.setCell (World.setCell (World.setCell w17 ⟨w2.heap.size, 0, none⟩ (.string smallN)) ⟨w2.heap.size, 1, none⟩ (.slice (some ⟨sA + 5 + 1, 0, none⟩) 1 1)) ⟨w2.heap.size, 2, none⟩ (.int .i64 1)) ⟨w2.heap.size, 3, none⟩ (.slice (some ⟨sA + 5 + 2, 0, none⟩) 1 1)) ⟨w2.heap.size, 4, none⟩ (.slice (some ⟨sA + 5 + 4, 0, none⟩) 1 1))).heap[sA + 5 + 4]? = _ from (put5_far _ w2.heap.size (.string smallN) (.slice (some ⟨sA + 5 + 1, 0, none⟩) 1 1) (.int .i64 1) (.slice (some ⟨sA + 5 + 2, 0, none⟩) 1 1) (.slice (some ⟨sA + 5 + 4, 0, none⟩) 1 1) (sA + 5 + 4) (show sA + 5 + 4 ≠ w2.heap.size by omega)).trans Y4.out)
        clear HB Bge Bgf X1 X2 X3 X4 Y1 Y2 Y3 Y4
        have HB := n_HB
        have Bge := n_Bge
        have Bgf := n_Bgf
        have X1 := n_X1
        have X2 := n_X2
        have X3 := n_X3
        have X4 := n_X4
        have Y1 := n_Y1
        have Y2 := n_Y2
        have Y3 := n_Y3
        have Y4 := n_Y4
        clear n_HB n_Bge n_Bgf n_X1 n_X2 n_X3 n_X4 n_Y1 n_Y2 n_Y3 n_Y4
        have SZ := Aside0.mk (show sA + 10 ≤ ((World.setCell (World.setCell (World.setCell (World.setCell (World.setCell w17 ⟨w2.heap.size, 0, none⟩ (.string smallN)) ⟨w2.heap.size, 1, none⟩ (.slice (some ⟨sA + 5 + 1, 0, none⟩) 1 1)) ⟨w2.heap.size, 2, none⟩ (.int .i64 1)) ⟨w2.heap.size, 3, none⟩ (.slice (some ⟨sA + 5 + 2, 0, none⟩) 1 1)) ⟨w2.heap.size, 4, none⟩ (.slice (some ⟨sA + 5 + 4, 0, none⟩) 1 1))).heap.size by simp only [World.size_setCell]; omega)
        clear hz2_
        obtain ⟨w17y, hwy⟩ : ∃ wy : World, wy = (World.setCell (World.setCell (World.setCell (World.setCell (World.setCell w17 ⟨w2.heap.size, 0, none⟩ (.string smallN)) ⟨w2.heap.size, 1, none⟩ (.slice (some ⟨sA + 5 + 1, 0, none⟩) 1 1)) ⟨w2.heap.size, 2, none⟩ (.int .i64 1)) ⟨w2.heap.size, 3, none⟩ (.slice (some ⟨sA + 5 + 2, 0, none⟩) 1 1)) ⟨w2.heap.size, 4, none⟩ (.slice (some ⟨sA + 5 + 4, 0, none⟩) 1 1)) := ⟨_, rfl⟩
        replace HB := HB.out
        replace SZ := SZ.out
        replace Bge := Bge.out
        replace Bgf := Bgf.out
        replace X1 := X1.out
        replace X2 := X2.out
        replace X3 := X3.out
        replace X4 := X4.out
        replace Y1 := Y1.out
        replace Y2 := Y2.out
        replace Y3 := Y3.out
        replace Y4 := Y4.out
        rw [← hwy] at HB SZ Bge Bgf X1 X2 X3 X4 Y1 Y2 Y3 Y4
        replace HB := Aside0.mk HB
        replace SZ := Aside0.mk SZ
        replace Bge := Aside0.mk Bge
        replace Bgf := Aside0.mk Bgf
        replace X1 := Aside0.mk X1
        replace X2 := Aside0.mk X2
        replace X3 := Aside0.mk X3
        replace X4 := Aside0.mk X4
        replace Y1 := Aside0.mk Y1
        replace Y2 := Aside0.mk Y2
        replace Y3 := Aside0.mk Y3
        replace Y4 := Aside0.mk Y4
        rw [← hwy]
        clear hwy
        refine start_ (n := 5) (S := fun w' => w'.cell? ⟨w1.heap.size, 4, none⟩ = some (.slice (some ⟨sA + 4, 0, none⟩) 1 1)) (ds := [4]) #[false, false, false, false, false] (by kernel_rfl) rfl rfl (((blk_cell (blk_drew Bge.out) 4).trans rfl)) (fun hHeld => ?_)
        refine pure_ (i := 0) (N := some 46) (v := ?_) (a' := ?_) #[true, false, false, false, false] rfl rfl (by kernel_rfl) (fun _ _ _ h => h) (Or.inl ⟨by rfl, ?_⟩) ?_ ?_
        rotate_left
        · intro w'
          go_simp
          with_reducible rfl
        rotate_left
        · simp only [Act.put, List.setIfInBounds_toArray, List.set_cons_zero, List.set_cons_succ, i64_w, i32_w]
          rfl
        refine take_ (i := 1) (N := some 47) (v := ?_) (a' := ?_) #[true, true, false, false, false] rfl rfl (by kernel_rfl) (fun _ _ _ h => h) (Or.inl ⟨by rfl, ?_⟩) hHeld ?_ ?_
        rotate_left
        · intro w' s0
          go_simp
          with_reducible rfl
        rotate_left
        · simp only [Act.put, List.setIfInBounds_toArray, List.set_cons_zero, List.set_cons_succ, i64_w, i32_w]
          rfl
        refine one_ (i := 2) (N := some 48) #[true, true, true, false, false] rfl rfl (by kernel_rfl) (by decide) (fun K hK => ?_)
        refine goes_ Tryd.func9 (by kernel_rfl) rfl #[.int .i64 4096] (by rfl) rfl rfl (by simp only [List.map_toArray, List.map_cons, List.map_nil]; rfl) ?_
        with_reducible refine (thicketlaw08_comb.calls kc1 4096 0 M1 _ KC1.out).mono ?_
        rintro e w18 ⟨v1_, rfl, hn, hb⟩
        refine ⟨_, rfl, ?_⟩
        obtain ⟨ANE1, cNE1, rfl⟩ := Kd.N_slice hn
        have lo_ := below_size (below_drew HB.out)
        have lo2_ := SZ.out
        have n_HB := Aside0.mk (below_step (below_drew HB.out) hb)
        have n_SZ := Aside0.mk (Nat.le_trans SZ.out hb.size)
        have n_Bge := Aside0.mk (blk_below (blk_drew Bge.out) hb)
        have n_Bgf := Aside0.mk (blk_below (blk_drew Bgf.out) hb)
        have n_X1 := Aside0.mk (blk_below (blk_drew X1.out) hb)
        have n_X2 := Aside0.mk (blk_below (blk_drew X2.out) hb)
        have n_X3 := Aside0.mk (blk_below (blk_drew X3.out) hb)
        have n_X4 := Aside0.mk (blk_below (blk_drew X4.out) hb)
        have n_Y1 := Aside0.mk (blk_below (blk_drew Y1.out) hb)
        have n_Y2 := Aside0.mk (blk_below (blk_drew Y2.out) hb)
        have n_Y3 := Aside0.mk (blk_below (blk_drew Y3.out) hb)
        have n_Y4 := Aside0.mk (blk_below (blk_drew Y4.out) hb)
        clear HB SZ Bge Bgf X1 X2 X3 X4 Y1 Y2 Y3 Y4
        have HB := n_HB
        have SZ := n_SZ
        have Bge := n_Bge
        have Bgf := n_Bgf
        have X1 := n_X1
        have X2 := n_X2
        have X3 := n_X3
        have X4 := n_X4
        have Y1 := n_Y1
        have Y2 := n_Y2
        have Y3 := n_Y3
        have Y4 := n_Y4
        clear n_HB n_SZ n_Bge n_Bgf n_X1 n_X2 n_X3 n_X4 n_Y1 n_Y2 n_Y3 n_Y4
        have n_ := Aside0.mk (Kd.N_lower (Kd.N_mono (ok' := fun k => sA + 10 ≤ k) hn (fun k hk => Nat.le_trans lo2_ hk)) lo_)
        clear hn lo_ lo2_
        have NE1 := n_
        clear n_
        have te := blk2 X4.out
        have hHeld2 := cellB hb hHeld
        clear hb
        refine hK.out _ _ (hHeld2) (fun hHeld => ?_)
        clear hK K
        refine norm_ (a' := ?_) ?_ ?_
        rotate_left
        · show Act.put _ (some 48) _ = _
          simp only [Act.put, List.setIfInBounds_toArray, List.set_cons_zero, List.set_cons_succ, i64_w, i32_w]
          rfl
        refine pure_ (i := 3) (N := some 49) (v := ?_) (a' := ?_) #[true, true, true, true, false] rfl rfl (by kernel_rfl) (fun _ _ _ h => h) (Or.inl ⟨by rfl, ?_⟩) ?_ ?_
        rotate_left
        · intro w'
          go_simp
          with_reducible rfl
        rotate_left
        · simp only [Act.put, List.setIfInBounds_toArray, List.set_cons_zero, List.set_cons_succ, i64_w, i32_w]
          rfl
        refine lastR_ (i := 4) (N := none) #[true, true, true, true, true] rfl rfl (by kernel_rfl) (by decide) (fun K hK => ?_)
        refine skipR_ (w1 := ?_) (by rfl) rfl ?_ ?_
        rotate_left
        · go_simp
          rfl
        refine hK.out _ _ ?_
        clear hK K
        refine done_ (by kernel_rfl) ?_

        have LM_NE1 := Aside0.mk (Kd.N_reads' NE1.out)
        clear te hHeld hHeld2
        have n_HB := Aside0.mk (below_set (g := sA + 4) (j := 0) (v := .int .i64 0) HB.out (by have := LO.out; have := Gge.out; have := Ggf.out; omega))
        have n_SZ := Aside0.mk (show sA + 10 ≤ (World.setCell _ ⟨sA + 4, 0, none⟩ (.int .i64 0)).heap.size by rw [World.size_setCell]; exact SZ.out)
        have n_Bge := Aside0.mk (blk_far (p := ⟨sA + 4, 0, none⟩) Bge.out (show w1.heap.size ≠ sA + 4 by omega) (.int .i64 0))
        have n_Bgf := Aside0.mk (blk_far (p := ⟨sA + 4, 0, none⟩) Bgf.out (show w2.heap.size ≠ sA + 4 by omega) (.int .i64 0))
        have n_X1 := Aside0.mk (blk_far (p := ⟨sA + 4, 0, none⟩) X1.out (show sA + 1 ≠ sA + 4 by omega) (.int .i64 0))
        have n_X2 := Aside0.mk (blk_far (p := ⟨sA + 4, 0, none⟩) X2.out (show sA + 2 ≠ sA + 4 by omega) (.int .i64 0))
        have n_X3 := Aside0.mk (blk_far (p := ⟨sA + 4, 0, none⟩) X3.out (show sA + 3 ≠ sA + 4 by omega) (.int .i64 0))
        have n_X4 := Aside0.mk (show (World.setCell _ ⟨sA + 4, 0, none⟩ (.int .i64 0)).heap[sA + 4]? = some (.cells #[.int .i64 0, .slice (some ⟨sA + 3, 0, none⟩) 1 1] 33 (0, 0)) from blk_put X4.out 0 (.int .i64 0) rfl)
        have n_Y1 := Aside0.mk (blk_far (p := ⟨sA + 4, 0, none⟩) Y1.out (show sA + 5 + 1 ≠ sA + 4 by omega) (.int .i64 0))
        have n_Y2 := Aside0.mk (blk_far (p := ⟨sA + 4, 0, none⟩) Y2.out (show sA + 5 + 2 ≠ sA + 4 by omega) (.int .i64 0))
        have n_Y3 := Aside0.mk (blk_far (p := ⟨sA + 4, 0, none⟩) Y3.out (show sA + 5 + 3 ≠ sA + 4 by omega) (.int .i64 0))
        have n_Y4 := Aside0.mk (blk_far (p := ⟨sA + 4, 0, none⟩) Y4.out (show sA + 5 + 4 ≠ sA + 4 by omega) (.int .i64 0))
        have n_NE1 := Aside0.mk (Kd.N_step NE1.out (fun k hk _ => Below.heap_setCell _ ⟨sA + 4, 0, none⟩ (.int .i64 0) k (show k ≠ sA + 4 by have h_ : sA + 10 ≤ k := hk; omega)))
        clear HB SZ Bge Bgf X1 X2 X3 X4 Y1 Y2 Y3 Y4 NE1
        have HB := n_HB
        have SZ := n_SZ
        have Bge := n_Bge
        have Bgf := n_Bgf
        have X1 := n_X1
        have X2 := n_X2
        have X3 := n_X3
        have X4 := n_X4
        have Y1 := n_Y1
        have Y2 := n_Y2
        have Y3 := n_Y3
        have Y4 := n_Y4
        have NE1 := n_NE1
        clear n_HB n_SZ n_Bge n_Bgf n_X1 n_X2 n_X3 n_X4 n_Y1 n_Y2 n_Y3 n_Y4 n_NE1
        have n_HB := Aside0.mk (below_set (g := sA + 4) (j := 1) (v := .slice ANE1 M1.length cNE1) HB.out (by have := LO.out; have := Gge.out; have := Ggf.out; omega))
        have n_SZ := Aside0.mk (show sA + 10 ≤ (World.setCell _ ⟨sA + 4, 1, none⟩ (.slice ANE1 M1.length cNE1)).heap.size by rw [World.size_setCell]; exact SZ.out)
        have n_Bge := Aside0.mk (blk_far (p := ⟨sA + 4, 1, none⟩) Bge.out (show w1.heap.size ≠ sA + 4 by omega) (.slice ANE1 M1.length cNE1))
        have n_Bgf := Aside0.mk (blk_far (p := ⟨sA + 4, 1, none⟩) Bgf.out (show w2.heap.size ≠ sA + 4 by omega) (.slice ANE1 M1.length cNE1))
        have n_X1 := Aside0.mk (blk_far (p := ⟨sA + 4, 1, none⟩) X1.out (show sA + 1 ≠ sA + 4 by omega) (.slice ANE1 M1.length cNE1))
        have n_X2 := Aside0.mk (blk_far (p := ⟨sA + 4, 1, none⟩) X2.out (show sA + 2 ≠ sA + 4 by omega) (.slice ANE1 M1.length cNE1))
        have n_X3 := Aside0.mk (blk_far (p := ⟨sA + 4, 1, none⟩) X3.out (show sA + 3 ≠ sA + 4 by omega) (.slice ANE1 M1.length cNE1))
        have n_X4 := Aside0.mk (show (World.setCell _ ⟨sA + 4, 1, none⟩ (.slice ANE1 M1.length cNE1)).heap[sA + 4]? = some (.cells #[.int .i64 0, .slice ANE1 M1.length cNE1] 33 (0, 0)) from blk_put X4.out 1 (.slice ANE1 M1.length cNE1) rfl)
        have n_Y1 := Aside0.mk (blk_far (p := ⟨sA + 4, 1, none⟩) Y1.out (show sA + 5 + 1 ≠ sA + 4 by omega) (.slice ANE1 M1.length cNE1))
        have n_Y2 := Aside0.mk (blk_far (p := ⟨sA + 4, 1, none⟩) Y2.out (show sA + 5 + 2 ≠ sA + 4 by omega) (.slice ANE1 M1.length cNE1))
        have n_Y3 := Aside0.mk (blk_far (p := ⟨sA + 4, 1, none⟩) Y3.out (show sA + 5 + 3 ≠ sA + 4 by omega) (.slice ANE1 M1.length cNE1))
        have n_Y4 := Aside0.mk (blk_far (p := ⟨sA + 4, 1, none⟩) Y4.out (show sA + 5 + 4 ≠ sA + 4 by omega) (.slice ANE1 M1.length cNE1))
        have n_NE1 := Aside0.mk (Kd.N_step NE1.out (fun k hk _ => Below.heap_setCell _ ⟨sA + 4, 1, none⟩ (.slice ANE1 M1.length cNE1) k (show k ≠ sA + 4 by have h_ : sA + 10 ≤ k := hk; omega)))
        clear HB SZ Bge Bgf X1 X2 X3 X4 Y1 Y2 Y3 Y4 NE1
        have HB := n_HB
        have SZ := n_SZ
        have Bge := n_Bge
        have Bgf := n_Bgf
        have X1 := n_X1
        have X2 := n_X2
        have X3 := n_X3
        have X4 := n_X4
        have Y1 := n_Y1
        have Y2 := n_Y2
        have Y3 := n_Y3
        have Y4 := n_Y4
        have NE1 := n_NE1
        clear n_HB n_SZ n_Bge n_Bgf n_X1 n_X2 n_X3 n_X4 n_Y1 n_Y2 n_Y3 n_Y4 n_NE1
        obtain ⟨w18y, hwy⟩ : ∃ wy : World, wy = World.setCell (World.setCell w18 ⟨sA + 4, 0, none⟩ (.int .i64 0)) ⟨sA + 4, 1, none⟩ (.slice ANE1 M1.length cNE1) := ⟨_, rfl⟩
        replace HB := HB.out
        replace SZ := SZ.out
        replace Bge := Bge.out
        replace Bgf := Bgf.out
        replace X1 := X1.out
        replace X2 := X2.out
        replace X3 := X3.out
        replace X4 := X4.out
        replace Y1 := Y1.out
        replace Y2 := Y2.out
        replace Y3 := Y3.out
        replace Y4 := Y4.out
        replace NE1 := NE1.out
        rw [← hwy] at HB SZ Bge Bgf X1 X2 X3 X4 Y1 Y2 Y3 Y4 NE1
        replace HB := Aside0.mk HB
        replace SZ := Aside0.mk SZ
        replace Bge := Aside0.mk Bge
        replace Bgf := Aside0.mk Bgf
        replace X1 := Aside0.mk X1
        replace X2 := Aside0.mk X2
        replace X3 := Aside0.mk X3
        replace X4 := Aside0.mk X4
        replace Y1 := Aside0.mk Y1
        replace Y2 := Aside0.mk Y2
        replace Y3 := Aside0.mk Y3
        replace Y4 := Aside0.mk Y4
        replace NE1 := Aside0.mk NE1
        rw [← hwy]
        clear hwy
        go_wp2
        refine start_ (n := 5) (S := fun w' => w'.cell? ⟨w2.heap.size, 4, none⟩ = some (.slice (some ⟨sA + 5 + 4, 0, none⟩) 1 1)) (ds := [4]) #[false, false, false, false, false] (by kernel_rfl) rfl rfl (((blk_cell (blk_drew Bgf.out) 4).trans rfl)) (fun hHeld => ?_)
        refine pure_ (i := 0) (N := some 50) (v := ?_) (a' := ?_) #[true, false, false, false, false] rfl rfl (by kernel_rfl) (fun _ _ _ h => h) (Or.inl ⟨by rfl, ?_⟩) ?_ ?_
        rotate_left
        · intro w'
          go_simp
          with_reducible rfl
        rotate_left
        · simp only [Act.put, List.setIfInBounds_toArray, List.set_cons_zero, List.set_cons_succ, i64_w, i32_w]
          rfl
        refine take_ (i := 1) (N := some 51) (v := ?_) (a' := ?_) #[true, true, false, false, false] rfl rfl (by kernel_rfl) (fun _ _ _ h => h) (Or.inl ⟨by rfl, ?_⟩) hHeld ?_ ?_
        rotate_left
        · intro w' s0
          go_simp
          with_reducible rfl
        rotate_left
        · simp only [Act.put, List.setIfInBounds_toArray, List.set_cons_zero, List.set_cons_succ, i64_w, i32_w]
          rfl
        refine one_ (i := 2) (N := some 52) #[true, true, true, false, false] rfl rfl (by kernel_rfl) (by decide) (fun K hK => ?_)
        refine goes_ Tryd.func9 (by kernel_rfl) rfl #[.int .i64 4097] (by rfl) rfl rfl (by simp only [List.map_toArray, List.map_cons, List.map_nil]; rfl) ?_
        with_reducible refine (thicketlaw08_comb.calls kc2 4097 0 M2 _ KC2.out).mono ?_
        rintro e w19 ⟨v1_, rfl, hn, hb⟩
        refine ⟨_, rfl, ?_⟩
        obtain ⟨ANF1, cNF1, rfl⟩ := Kd.N_slice hn
        have lo_ := below_size (below_drew HB.out)
        have lo2_ := SZ.out
        have n_HB := Aside0.mk (below_step (below_drew HB.out) hb)
        have n_SZ := Aside0.mk (Nat.le_trans SZ.out hb.size)
        have n_Bge := Aside0.mk (blk_below (blk_drew Bge.out) hb)
        have n_Bgf := Aside0.mk (blk_below (blk_drew Bgf.out) hb)
        have n_X1 := Aside0.mk (blk_below (blk_drew X1.out) hb)
        have n_X2 := Aside0.mk (blk_below (blk_drew X2.out) hb)
        have n_X3 := Aside0.mk (blk_below (blk_drew X3.out) hb)
        have n_X4 := Aside0.mk (blk_below (blk_drew X4.out) hb)
        have n_Y1 := Aside0.mk (blk_below (blk_drew Y1.out) hb)
        have n_Y2 := Aside0.mk (blk_below (blk_drew Y2.out) hb)
        have n_Y3 := Aside0.mk (blk_below (blk_drew Y3.out) hb)
        have n_Y4 := Aside0.mk (blk_below (blk_drew Y4.out) hb)
        have n_NE1 := Aside0.mk (Kd.N_below (Kd.N_drew NE1.out) hb)
        clear HB SZ Bge Bgf X1 X2 X3 X4 Y1 Y2 Y3 Y4 NE1
        have HB := n_HB
        have SZ := n_SZ
        have Bge := n_Bge
        have Bgf := n_Bgf
        have X1 := n_X1
        have X2 := n_X2
        have X3 := n_X3
        have X4 := n_X4
        have Y1 := n_Y1
        have Y2 := n_Y2
        have Y3 := n_Y3
        have Y4 := n_Y4
        have NE1 := n_NE1
        clear n_HB n_SZ n_Bge n_Bgf n_X1 n_X2 n_X3 n_X4 n_Y1 n_Y2 n_Y3 n_Y4 n_NE1
        have n_ := Aside0.mk (Kd.N_lower (Kd.N_mono (ok' := fun k => sA + 10 ≤ k) hn (fun k hk => Nat.le_trans lo2_ hk)) lo_)
        clear hn lo_ lo2_
        have NF1 := n_
        clear n_
        have te := blk2 Y4.out
        have hHeld2 := cellB hb hHeld
        clear hb
        refine hK.out _ _ (hHeld2) (fun hHeld => ?_)
        clear hK K
        refine norm_ (a' := ?_) ?_ ?_
        rotate_left
        · show Act.put _ (some 52) _ = _
          simp only [Act.put, List.setIfInBounds_toArray, List.set_cons_zero, List.set_cons_succ, i64_w, i32_w]
          rfl
        refine pure_ (i := 3) (N := some 53) (v := ?_) (a' := ?_) #[true, true, true, true, false] rfl rfl (by kernel_rfl) (fun _ _ _ h => h) (Or.inl ⟨by rfl, ?_⟩) ?_ ?_
        rotate_left
        · intro w'
          go_simp
          with_reducible rfl
        rotate_left
        · simp only [Act.put, List.setIfInBounds_toArray, List.set_cons_zero, List.set_cons_succ, i64_w, i32_w]
          rfl
        refine lastR_ (i := 4) (N := none) #[true, true, true, true, true] rfl rfl (by kernel_rfl) (by decide) (fun K hK => ?_)
        refine skipR_ (w1 := ?_) (by rfl) rfl ?_ ?_
        rotate_left
        · go_simp
          rfl
        refine hK.out _ _ ?_
        clear hK K
        refine done_ (by kernel_rfl) ?_

        have LM_NF1 := Aside0.mk (Kd.N_reads' NF1.out)
        clear te hHeld hHeld2
        have n_HB := Aside0.mk (below_set (g := sA + 5 + 4) (j := 0) (v := .int .i64 0) HB.out (by have := LO.out; have := Gge.out; have := Ggf.out; omega))
        have n_SZ := Aside0.mk (show sA + 10 ≤ (World.setCell _ ⟨sA + 5 + 4, 0, none⟩ (.int .i64 0)).heap.size by rw [World.size_setCell]; exact SZ.out)
        have n_Bge := Aside0.mk (blk_far (p := ⟨sA + 5 + 4, 0, none⟩) Bge.out (show w1.heap.size ≠ sA + 5 + 4 by omega) (.int .i64 0))
        have n_Bgf := Aside0.mk (blk_far (p := ⟨sA + 5 + 4, 0, none⟩) Bgf.out (show w2.heap.size ≠ sA + 5 + 4 by omega) (.int .i64 0))
        have n_X1 := Aside0.mk (blk_far (p := ⟨sA + 5 + 4, 0, none⟩) X1.out (show sA + 1 ≠ sA + 5 + 4 by omega) (.int .i64 0))
        have n_X2 := Aside0.mk (blk_far (p := ⟨sA + 5 + 4, 0, none⟩) X2.out (show sA + 2 ≠ sA + 5 + 4 by omega) (.int .i64 0))
        have n_X3 := Aside0.mk (blk_far (p := ⟨sA + 5 + 4, 0, none⟩) X3.out (show sA + 3 ≠ sA + 5 + 4 by omega) (.int .i64 0))
        have n_X4 := Aside0.mk (blk_far (p := ⟨sA + 5 + 4, 0, none⟩) X4.out (show sA + 4 ≠ sA + 5 + 4 by omega) (.int .i64 0))
        have n_Y1 := Aside0.mk (blk_far (p := ⟨sA + 5 + 4, 0, none⟩) Y1.out (show sA + 5 + 1 ≠ sA + 5 + 4 by omega) (.int .i64 0))
        have n_Y2 := Aside0.mk (blk_far (p := ⟨sA + 5 + 4, 0, none⟩) Y2.out (show sA + 5 + 2 ≠ sA + 5 + 4 by omega) (.int .i64 0))
        have n_Y3 := Aside0.mk (blk_far (p := ⟨sA + 5 + 4, 0, none⟩) Y3.out (show sA + 5 + 3 ≠ sA + 5 + 4 by omega) (.int .i64 0))
        have n_Y4 := Aside0.mk (show (World.setCell _ ⟨sA + 5 + 4, 0, none⟩ (.int .i64 0)).heap[sA + 5 + 4]? = some (.cells #[.int .i64 0, .slice (some ⟨sA + 5 + 3, 0, none⟩) 1 1] 33 (0, 0)) from blk_put Y4.out 0 (.int .i64 0) rfl)
        have n_NE1 := Aside0.mk (Kd.N_step NE1.out (fun k hk _ => Below.heap_setCell _ ⟨sA + 5 + 4, 0, none⟩ (.int .i64 0) k (show k ≠ sA + 5 + 4 by have h_ : sA + 10 ≤ k := hk; omega)))
        have n_NF1 := Aside0.mk (Kd.N_step NF1.out (fun k hk _ => Below.heap_setCell _ ⟨sA + 5 + 4, 0, none⟩ (.int .i64 0) k (show k ≠ sA + 5 + 4 by have h_ : sA + 10 ≤ k := hk; omega)))
        clear HB SZ Bge Bgf X1 X2 X3 X4 Y1 Y2 Y3 Y4 NE1 NF1
        have HB := n_HB
        have SZ := n_SZ
        have Bge := n_Bge
        have Bgf := n_Bgf
        have X1 := n_X1
        have X2 := n_X2
        have X3 := n_X3
        have X4 := n_X4
        have Y1 := n_Y1
        have Y2 := n_Y2
        have Y3 := n_Y3
        have Y4 := n_Y4
        have NE1 := n_NE1
        have NF1 := n_NF1
        clear n_HB n_SZ n_Bge n_Bgf n_X1 n_X2 n_X3 n_X4 n_Y1 n_Y2 n_Y3 n_Y4 n_NE1 n_NF1
        have n_HB := Aside0.mk (below_set (g := sA + 5 + 4) (j := 1) (v := .slice ANF1 M2.length cNF1) HB.out (by have := LO.out; have := Gge.out; have := Ggf.out; omega))
        have n_SZ := Aside0.mk (show sA + 10 ≤ (World.setCell _ ⟨sA + 5 + 4, 1, none⟩ (.slice ANF1 M2.length cNF1)).heap.size by rw [World.size_setCell]; exact SZ.out)
        have n_Bge := Aside0.mk (blk_far (p := ⟨sA + 5 + 4, 1, none⟩) Bge.out (show w1.heap.size ≠ sA + 5 + 4 by omega) (.slice ANF1 M2.length cNF1))
        have n_Bgf := Aside0.mk (blk_far (p := ⟨sA + 5 + 4, 1, none⟩) Bgf.out (show w2.heap.size ≠ sA + 5 + 4 by omega) (.slice ANF1 M2.length cNF1))
        have n_X1 := Aside0.mk (blk_far (p := ⟨sA + 5 + 4, 1, none⟩) X1.out (show sA + 1 ≠ sA + 5 + 4 by omega) (.slice ANF1 M2.length cNF1))
        have n_X2 := Aside0.mk (blk_far (p := ⟨sA + 5 + 4, 1, none⟩) X2.out (show sA + 2 ≠ sA + 5 + 4 by omega) (.slice ANF1 M2.length cNF1))
        have n_X3 := Aside0.mk (blk_far (p := ⟨sA + 5 + 4, 1, none⟩) X3.out (show sA + 3 ≠ sA + 5 + 4 by omega) (.slice ANF1 M2.length cNF1))
        have n_X4 := Aside0.mk (blk_far (p := ⟨sA + 5 + 4, 1, none⟩) X4.out (show sA + 4 ≠ sA + 5 + 4 by omega) (.slice ANF1 M2.length cNF1))
        have n_Y1 := Aside0.mk (blk_far (p := ⟨sA + 5 + 4, 1, none⟩) Y1.out (show sA + 5 + 1 ≠ sA + 5 + 4 by omega) (.slice ANF1 M2.length cNF1))
        have n_Y2 := Aside0.mk (blk_far (p := ⟨sA + 5 + 4, 1, none⟩) Y2.out (show sA + 5 + 2 ≠ sA + 5 + 4 by omega) (.slice ANF1 M2.length cNF1))
        have n_Y3 := Aside0.mk (blk_far (p := ⟨sA + 5 + 4, 1, none⟩) Y3.out (show sA + 5 + 3 ≠ sA + 5 + 4 by omega) (.slice ANF1 M2.length cNF1))
        have n_Y4 := Aside0.mk (show (World.setCell _ ⟨sA + 5 + 4, 1, none⟩ (.slice ANF1 M2.length cNF1)).heap[sA + 5 + 4]? = some (.cells #[.int .i64 0, .slice ANF1 M2.length cNF1] 33 (0, 0)) from blk_put Y4.out 1 (.slice ANF1 M2.length cNF1) rfl)
        have n_NE1 := Aside0.mk (Kd.N_step NE1.out (fun k hk _ => Below.heap_setCell _ ⟨sA + 5 + 4, 1, none⟩ (.slice ANF1 M2.length cNF1) k (show k ≠ sA + 5 + 4 by have h_ : sA + 10 ≤ k := hk; omega)))
        have n_NF1 := Aside0.mk (Kd.N_step NF1.out (fun k hk _ => Below.heap_setCell _ ⟨sA + 5 + 4, 1, none⟩ (.slice ANF1 M2.length cNF1) k (show k ≠ sA + 5 + 4 by have h_ : sA + 10 ≤ k := hk; omega)))
        clear HB SZ Bge Bgf X1 X2 X3 X4 Y1 Y2 Y3 Y4 NE1 NF1
        have HB := n_HB
        have SZ := n_SZ
        have Bge := n_Bge
        have Bgf := n_Bgf
        have X1 := n_X1
        have X2 := n_X2
        have X3 := n_X3
        have X4 := n_X4
        have Y1 := n_Y1
        have Y2 := n_Y2
        have Y3 := n_Y3
        have Y4 := n_Y4
        have NE1 := n_NE1
        have NF1 := n_NF1
        clear n_HB n_SZ n_Bge n_Bgf n_X1 n_X2 n_X3 n_X4 n_Y1 n_Y2 n_Y3 n_Y4 n_NE1 n_NF1
        obtain ⟨w19y, hwy⟩ : ∃ wy : World, wy = World.setCell (World.setCell w19 ⟨sA + 5 + 4, 0, none⟩ (.int .i64 0)) ⟨sA + 5 + 4, 1, none⟩ (.slice ANF1 M2.length cNF1) := ⟨_, rfl⟩
        replace HB := HB.out
        replace SZ := SZ.out
        replace Bge := Bge.out
        replace Bgf := Bgf.out
        replace X1 := X1.out
        replace X2 := X2.out
        replace X3 := X3.out
        replace X4 := X4.out
        replace Y1 := Y1.out
        replace Y2 := Y2.out
        replace Y3 := Y3.out
        replace Y4 := Y4.out
        replace NE1 := NE1.out
        replace NF1 := NF1.out
        rw [← hwy] at HB SZ Bge Bgf X1 X2 X3 X4 Y1 Y2 Y3 Y4 NE1 NF1
        replace HB := Aside0.mk HB
        replace SZ := Aside0.mk SZ
        replace Bge := Aside0.mk Bge
        replace Bgf := Aside0.mk Bgf
        replace X1 := Aside0.mk X1
        replace X2 := Aside0.mk X2
        replace X3 := Aside0.mk X3
        replace X4 := Aside0.mk X4
        replace Y1 := Aside0.mk Y1
        replace Y2 := Aside0.mk Y2
        replace Y3 := Aside0.mk Y3
        replace Y4 := Aside0.mk Y4
        replace NE1 := Aside0.mk NE1
        replace NF1 := Aside0.mk NF1
        rw [← hwy]
        clear hwy
        have ha := blk5 Bge.out
        have hb5 := blk5 Bgf.out
        go_wp2_with (fail)
        clear ha hb5
        refine (at_true smallN (some ⟨sA + 1, 0, none⟩) 1 smallF 1 (some ⟨sA + 2, 0, none⟩) 1 smallB (some ⟨sA + 4, 0, none⟩) 1 [⟨0, M1⟩] smallN (some ⟨sA + 5 + 1, 0, none⟩) 1 smallF 1 (some ⟨sA + 5 + 2, 0, none⟩) 1 smallB (some ⟨sA + 5 + 4, 0, none⟩) 1 [⟨0, M2⟩] _ ⟨tab_below htab.out (kB0 HB)⟩ ⟨C_str X1.out⟩ ZF ⟨C_int X2.out⟩ ⟨C_tree X4.out rfl LM_NE1.out.2.1 (Kd.N_reads' NE1.out).2.2⟩ SM1 ⟨C_str Y1.out⟩ ZF ⟨C_int Y2.out⟩ ⟨C_tree Y4.out rfl LM_NF1.out.2.1 (Kd.N_reads' NF1.out).2.2⟩ SM2 12 _ _ C3 N3).mono ?_
        rintro e w20 ⟨rfl, hb⟩
        have n_HB := Aside0.mk (below_step HB.out hb)
        have n_SZ := Aside0.mk (Nat.le_trans SZ.out hb.size)
        have n_Bge := Aside0.mk (blk_below Bge.out hb)
        have n_Bgf := Aside0.mk (blk_below Bgf.out hb)
        have n_X1 := Aside0.mk (blk_below X1.out hb)
        have n_X2 := Aside0.mk (blk_below X2.out hb)
        have n_X3 := Aside0.mk (blk_below X3.out hb)
        have n_X4 := Aside0.mk (blk_below X4.out hb)
        have n_Y1 := Aside0.mk (blk_below Y1.out hb)
        have n_Y2 := Aside0.mk (blk_below Y2.out hb)
        have n_Y3 := Aside0.mk (blk_below Y3.out hb)
        have n_Y4 := Aside0.mk (blk_below Y4.out hb)
        have n_NE1 := Aside0.mk (Kd.N_below NE1.out hb)
        have n_NF1 := Aside0.mk (Kd.N_below NF1.out hb)
        clear HB SZ Bge Bgf X1 X2 X3 X4 Y1 Y2 Y3 Y4 NE1 NF1
        have HB := n_HB
        have SZ := n_SZ
        have Bge := n_Bge
        have Bgf := n_Bgf
        have X1 := n_X1
        have X2 := n_X2
        have X3 := n_X3
        have X4 := n_X4
        have Y1 := n_Y1
        have Y2 := n_Y2
        have Y3 := n_Y3
        have Y4 := n_Y4
        have NE1 := n_NE1
        have NF1 := n_NF1
        clear n_HB n_SZ n_Bge n_Bgf n_X1 n_X2 n_X3 n_X4 n_Y1 n_Y2 n_Y3 n_Y4 n_NE1 n_NF1
        clear hb
        go_wp2
        clear NF1 LM_NF1 SM2 N3 KC2
        obtain ⟨tt, htt⟩ : ∃ tt : Nat, w20.heap.size = tt := ⟨_, rfl⟩
        have n_ := Aside0.mk (Kd.N_mono (ok' := fun k => sA + 10 ≤ k ∧ k < tt) (Kd.N_bound NE1.out) (fun k hk => ⟨hk.1, by have := hk.2; omega⟩))
        clear NE1
        have NE1 := n_
        clear n_
        have HT := Aside0.mk htt
        clear htt
        refine start_ (n := 5) (S := fun w' => w'.cell? ⟨w2.heap.size, 4, none⟩ = some (.slice (some ⟨sA + 5 + 4, 0, none⟩) 1 1)) (ds := [4]) #[false, false, false, false, false] (by kernel_rfl) rfl rfl (((blk_cell (blk_drew Bgf.out) 4).trans rfl)) (fun hHeld => ?_)
        refine pure_ (i := 0) (N := some 58) (v := ?_) (a' := ?_) #[true, false, false, false, false] rfl rfl (by kernel_rfl) (fun _ _ _ h => h) (Or.inl ⟨by rfl, ?_⟩) ?_ ?_
        rotate_left
        · intro w'
          go_simp
          with_reducible rfl
        rotate_left
        · simp only [Act.put, List.setIfInBounds_toArray, List.set_cons_zero, List.set_cons_succ, i64_w, i32_w]
          rfl
        refine take_ (i := 1) (N := some 59) (v := ?_) (a' := ?_) #[true, true, false, false, false] rfl rfl (by kernel_rfl) (fun _ _ _ h => h) (Or.inl ⟨by rfl, ?_⟩) hHeld ?_ ?_
        rotate_left
        · intro w' s0
          go_simp
          with_reducible rfl
        rotate_left
        · simp only [Act.put, List.setIfInBounds_toArray, List.set_cons_zero, List.set_cons_succ, i64_w, i32_w]
          rfl
        refine one_ (i := 2) (N := some 60) #[true, true, true, false, false] rfl rfl (by kernel_rfl) (by decide) (fun K hK => ?_)
        refine goes_ Tryd.func9 (by kernel_rfl) rfl #[.int .i64 4096] (by rfl) rfl rfl (by simp only [List.map_toArray, List.map_cons, List.map_nil]; rfl) ?_
        with_reducible refine (thicketlaw08_comb.calls kc1 4096 0 M1 _ KC1.out).mono ?_
        rintro e w22 ⟨v1_, rfl, hn, hb⟩
        refine ⟨_, rfl, ?_⟩
        obtain ⟨ANF2, cNF2, rfl⟩ := Kd.N_slice hn
        have lo_ := below_size (below_drew HB.out)
        have lo2_ := SZ.out
        have NB2 := Aside0.mk (fun (k : Nat) (hk : (Value.slice ANF2 M1.length cNF2).ownBlock = some k) => (by have h1 := Kd.N_base hn k hk; have h2 := HT.out; have h3 : w20.drew.heap.size = w20.heap.size := rfl; omega : tt ≤ k))
        have n_HB := Aside0.mk (below_step (below_drew HB.out) hb)
        have n_SZ := Aside0.mk (Nat.le_trans SZ.out hb.size)
        have n_Bge := Aside0.mk (blk_below (blk_drew Bge.out) hb)
        have n_Bgf := Aside0.mk (blk_below (blk_drew Bgf.out) hb)
        have n_X1 := Aside0.mk (blk_below (blk_drew X1.out) hb)
        have n_X2 := Aside0.mk (blk_below (blk_drew X2.out) hb)
        have n_X3 := Aside0.mk (blk_below (blk_drew X3.out) hb)
        have n_X4 := Aside0.mk (blk_below (blk_drew X4.out) hb)
        have n_Y1 := Aside0.mk (blk_below (blk_drew Y1.out) hb)
        have n_Y2 := Aside0.mk (blk_below (blk_drew Y2.out) hb)
        have n_Y3 := Aside0.mk (blk_below (blk_drew Y3.out) hb)
        have n_Y4 := Aside0.mk (blk_below (blk_drew Y4.out) hb)
        have n_NE1 := Aside0.mk (Kd.N_below (Kd.N_drew NE1.out) hb)
        clear HB SZ Bge Bgf X1 X2 X3 X4 Y1 Y2 Y3 Y4 NE1
        have HB := n_HB
        have SZ := n_SZ
        have Bge := n_Bge
        have Bgf := n_Bgf
        have X1 := n_X1
        have X2 := n_X2
        have X3 := n_X3
        have X4 := n_X4
        have Y1 := n_Y1
        have Y2 := n_Y2
        have Y3 := n_Y3
        have Y4 := n_Y4
        have NE1 := n_NE1
        clear n_HB n_SZ n_Bge n_Bgf n_X1 n_X2 n_X3 n_X4 n_Y1 n_Y2 n_Y3 n_Y4 n_NE1
        have n_ := Aside0.mk (Kd.N_lower (Kd.N_mono (ok' := fun k => sA + 10 ≤ k) hn (fun k hk => Nat.le_trans lo2_ hk)) lo_)
        clear hn lo_ lo2_
        have NF2 := n_
        clear n_
        have te := blk2 Y4.out
        have hHeld2 := cellB hb hHeld
        clear hb
        refine hK.out _ _ (hHeld2) (fun hHeld => ?_)
        clear hK K
        refine norm_ (a' := ?_) ?_ ?_
        rotate_left
        · show Act.put _ (some 60) _ = _
          simp only [Act.put, List.setIfInBounds_toArray, List.set_cons_zero, List.set_cons_succ, i64_w, i32_w]
          rfl
        refine pure_ (i := 3) (N := some 61) (v := ?_) (a' := ?_) #[true, true, true, true, false] rfl rfl (by kernel_rfl) (fun _ _ _ h => h) (Or.inl ⟨by rfl, ?_⟩) ?_ ?_
        rotate_left
        · intro w'
          go_simp
          with_reducible rfl
        rotate_left
        · simp only [Act.put, List.setIfInBounds_toArray, List.set_cons_zero, List.set_cons_succ, i64_w, i32_w]
          rfl
        refine lastR_ (i := 4) (N := none) #[true, true, true, true, true] rfl rfl (by kernel_rfl) (by decide) (fun K hK => ?_)
        refine skipR_ (w1 := ?_) (by rfl) rfl ?_ ?_
        rotate_left
        · go_simp
          rfl
        refine hK.out _ _ ?_
        clear hK K
        refine done_ (by kernel_rfl) ?_

        have LM_NF2 := Aside0.mk (Kd.N_reads' NF2.out)
        clear te hHeld hHeld2
        have n_HB := Aside0.mk (below_set (g := sA + 5 + 4) (j := 0) (v := .int .i64 0) HB.out (by have := LO.out; have := Gge.out; have := Ggf.out; omega))
        have n_SZ := Aside0.mk (show sA + 10 ≤ (World.setCell _ ⟨sA + 5 + 4, 0, none⟩ (.int .i64 0)).heap.size by rw [World.size_setCell]; exact SZ.out)
        have n_Bge := Aside0.mk (blk_far (p := ⟨sA + 5 + 4, 0, none⟩) Bge.out (show w1.heap.size ≠ sA + 5 + 4 by omega) (.int .i64 0))
        have n_Bgf := Aside0.mk (blk_far (p := ⟨sA + 5 + 4, 0, none⟩) Bgf.out (show w2.heap.size ≠ sA + 5 + 4 by omega) (.int .i64 0))
        have n_X1 := Aside0.mk (blk_far (p := ⟨sA + 5 + 4, 0, none⟩) X1.out (show sA + 1 ≠ sA + 5 + 4 by omega) (.int .i64 0))
        have n_X2 := Aside0.mk (blk_far (p := ⟨sA + 5 + 4, 0, none⟩) X2.out (show sA + 2 ≠ sA + 5 + 4 by omega) (.int .i64 0))
        have n_X3 := Aside0.mk (blk_far (p := ⟨sA + 5 + 4, 0, none⟩) X3.out (show sA + 3 ≠ sA + 5 + 4 by omega) (.int .i64 0))
        have n_X4 := Aside0.mk (blk_far (p := ⟨sA + 5 + 4, 0, none⟩) X4.out (show sA + 4 ≠ sA + 5 + 4 by omega) (.int .i64 0))
        have n_Y1 := Aside0.mk (blk_far (p := ⟨sA + 5 + 4, 0, none⟩) Y1.out (show sA + 5 + 1 ≠ sA + 5 + 4 by omega) (.int .i64 0))
        have n_Y2 := Aside0.mk (blk_far (p := ⟨sA + 5 + 4, 0, none⟩) Y2.out (show sA + 5 + 2 ≠ sA + 5 + 4 by omega) (.int .i64 0))
        have n_Y3 := Aside0.mk (blk_far (p := ⟨sA + 5 + 4, 0, none⟩) Y3.out (show sA + 5 + 3 ≠ sA + 5 + 4 by omega) (.int .i64 0))
        have n_Y4 := Aside0.mk (show (World.setCell _ ⟨sA + 5 + 4, 0, none⟩ (.int .i64 0)).heap[sA + 5 + 4]? = some (.cells #[.int .i64 0, .slice ANF1 M2.length cNF1] 33 (0, 0)) from blk_put Y4.out 0 (.int .i64 0) rfl)
        have n_NE1 := Aside0.mk (Kd.N_step NE1.out (fun k hk _ => Below.heap_setCell _ ⟨sA + 5 + 4, 0, none⟩ (.int .i64 0) k (show k ≠ sA + 5 + 4 by have h_ : sA + 10 ≤ k := hk.1; omega)))
        have n_NF2 := Aside0.mk (Kd.N_step NF2.out (fun k hk _ => Below.heap_setCell _ ⟨sA + 5 + 4, 0, none⟩ (.int .i64 0) k (show k ≠ sA + 5 + 4 by have h_ : sA + 10 ≤ k := hk; omega)))
        clear HB SZ Bge Bgf X1 X2 X3 X4 Y1 Y2 Y3 Y4 NE1 NF2
        have HB := n_HB
        have SZ := n_SZ
        have Bge := n_Bge
        have Bgf := n_Bgf
        have X1 := n_X1
        have X2 := n_X2
        have X3 := n_X3
        have X4 := n_X4
        have Y1 := n_Y1
        have Y2 := n_Y2
        have Y3 := n_Y3
        have Y4 := n_Y4
        have NE1 := n_NE1
        have NF2 := n_NF2
        clear n_HB n_SZ n_Bge n_Bgf n_X1 n_X2 n_X3 n_X4 n_Y1 n_Y2 n_Y3 n_Y4 n_NE1 n_NF2
        have n_HB := Aside0.mk (below_set (g := sA + 5 + 4) (j := 1) (v := .slice ANF2 M1.length cNF2) HB.out (by have := LO.out; have := Gge.out; have := Ggf.out; omega))
        have n_SZ := Aside0.mk (show sA + 10 ≤ (World.setCell _ ⟨sA + 5 + 4, 1, none⟩ (.slice ANF2 M1.length cNF2)).heap.size by rw [World.size_setCell]; exact SZ.out)
        have n_Bge := Aside0.mk (blk_far (p := ⟨sA + 5 + 4, 1, none⟩) Bge.out (show w1.heap.size ≠ sA + 5 + 4 by omega) (.slice ANF2 M1.length cNF2))
        have n_Bgf := Aside0.mk (blk_far (p := ⟨sA + 5 + 4, 1, none⟩) Bgf.out (show w2.heap.size ≠ sA + 5 + 4 by omega) (.slice ANF2 M1.length cNF2))
        have n_X1 := Aside0.mk (blk_far (p := ⟨sA + 5 + 4, 1, none⟩) X1.out (show sA + 1 ≠ sA + 5 + 4 by omega) (.slice ANF2 M1.length cNF2))
        have n_X2 := Aside0.mk (blk_far (p := ⟨sA + 5 + 4, 1, none⟩) X2.out (show sA + 2 ≠ sA + 5 + 4 by omega) (.slice ANF2 M1.length cNF2))
        have n_X3 := Aside0.mk (blk_far (p := ⟨sA + 5 + 4, 1, none⟩) X3.out (show sA + 3 ≠ sA + 5 + 4 by omega) (.slice ANF2 M1.length cNF2))
        have n_X4 := Aside0.mk (blk_far (p := ⟨sA + 5 + 4, 1, none⟩) X4.out (show sA + 4 ≠ sA + 5 + 4 by omega) (.slice ANF2 M1.length cNF2))
        have n_Y1 := Aside0.mk (blk_far (p := ⟨sA + 5 + 4, 1, none⟩) Y1.out (show sA + 5 + 1 ≠ sA + 5 + 4 by omega) (.slice ANF2 M1.length cNF2))
        have n_Y2 := Aside0.mk (blk_far (p := ⟨sA + 5 + 4, 1, none⟩) Y2.out (show sA + 5 + 2 ≠ sA + 5 + 4 by omega) (.slice ANF2 M1.length cNF2))
        have n_Y3 := Aside0.mk (blk_far (p := ⟨sA + 5 + 4, 1, none⟩) Y3.out (show sA + 5 + 3 ≠ sA + 5 + 4 by omega) (.slice ANF2 M1.length cNF2))
        have n_Y4 := Aside0.mk (show (World.setCell _ ⟨sA + 5 + 4, 1, none⟩ (.slice ANF2 M1.length cNF2)).heap[sA + 5 + 4]? = some (.cells #[.int .i64 0, .slice ANF2 M1.length cNF2] 33 (0, 0)) from blk_put Y4.out 1 (.slice ANF2 M1.length cNF2) rfl)
        have n_NE1 := Aside0.mk (Kd.N_step NE1.out (fun k hk _ => Below.heap_setCell _ ⟨sA + 5 + 4, 1, none⟩ (.slice ANF2 M1.length cNF2) k (show k ≠ sA + 5 + 4 by have h_ : sA + 10 ≤ k := hk.1; omega)))
        have n_NF2 := Aside0.mk (Kd.N_step NF2.out (fun k hk _ => Below.heap_setCell _ ⟨sA + 5 + 4, 1, none⟩ (.slice ANF2 M1.length cNF2) k (show k ≠ sA + 5 + 4 by have h_ : sA + 10 ≤ k := hk; omega)))
        clear HB SZ Bge Bgf X1 X2 X3 X4 Y1 Y2 Y3 Y4 NE1 NF2
        have HB := n_HB
        have SZ := n_SZ
        have Bge := n_Bge
        have Bgf := n_Bgf
        have X1 := n_X1
        have X2 := n_X2
        have X3 := n_X3
        have X4 := n_X4
        have Y1 := n_Y1
        have Y2 := n_Y2
        have Y3 := n_Y3
        have Y4 := n_Y4
        have NE1 := n_NE1
        have NF2 := n_NF2
        clear n_HB n_SZ n_Bge n_Bgf n_X1 n_X2 n_X3 n_X4 n_Y1 n_Y2 n_Y3 n_Y4 n_NE1 n_NF2
        obtain ⟨w22y, hwy⟩ : ∃ wy : World, wy = World.setCell (World.setCell w22 ⟨sA + 5 + 4, 0, none⟩ (.int .i64 0)) ⟨sA + 5 + 4, 1, none⟩ (.slice ANF2 M1.length cNF2) := ⟨_, rfl⟩
        replace HB := HB.out
        replace SZ := SZ.out
        replace Bge := Bge.out
        replace Bgf := Bgf.out
        replace X1 := X1.out
        replace X2 := X2.out
        replace X3 := X3.out
        replace X4 := X4.out
        replace Y1 := Y1.out
        replace Y2 := Y2.out
        replace Y3 := Y3.out
        replace Y4 := Y4.out
        replace NE1 := NE1.out
        replace NF2 := NF2.out
        rw [← hwy] at HB SZ Bge Bgf X1 X2 X3 X4 Y1 Y2 Y3 Y4 NE1 NF2
        replace HB := Aside0.mk HB
        replace SZ := Aside0.mk SZ
        replace Bge := Aside0.mk Bge
        replace Bgf := Aside0.mk Bgf
        replace X1 := Aside0.mk X1
        replace X2 := Aside0.mk X2
        replace X3 := Aside0.mk X3
        replace X4 := Aside0.mk X4
        replace Y1 := Aside0.mk Y1
        replace Y2 := Aside0.mk Y2
        replace Y3 := Aside0.mk Y3
        replace Y4 := Aside0.mk Y4
        replace NE1 := Aside0.mk NE1
        replace NF2 := Aside0.mk NF2
        rw [← hwy]
        clear hwy
        go_wp2
        refine start_ (n := 13) (S := fun w' => w'.cell? ⟨w2.heap.size, 4, none⟩ = some (.slice (some ⟨sA + 5 + 4, 0, none⟩) 1 1) ∧ w'.cell? ⟨sA + 5 + 4, 1, none⟩ = some (.slice ANF2 M1.length cNF2)) (ds := [12]) #[false, false, false, false, false, false, false, false, false, false, false, false, false] (by kernel_rfl) rfl rfl ⟨((blk_cell (blk_drew Bgf.out) 4).trans rfl), ((blk_cell (blk_drew Y4.out) 1).trans rfl)⟩ (fun hHeld => ?_)
        refine pure_ (i := 0) (N := some 62) (v := ?_) (a' := ?_) #[true, false, false, false, false, false, false, false, false, false, false, false, false] rfl rfl (by kernel_rfl) (fun _ _ _ h => h) (Or.inl ⟨by rfl, ?_⟩) ?_ ?_
        rotate_left
        · intro w'
          go_simp
          with_reducible rfl
        rotate_left
        · simp only [Act.put, List.setIfInBounds_toArray, List.set_cons_zero, List.set_cons_succ, i64_w, i32_w]
          rfl
        refine pure_ (i := 2) (N := some 64) (v := ?_) (a' := ?_) #[true, false, true, false, false, false, false, false, false, false, false, false, false] rfl rfl (by kernel_rfl) (fun _ _ _ h => h) (Or.inl ⟨by rfl, ?_⟩) ?_ ?_
        rotate_left
        · intro w'
          go_simp
          with_reducible rfl
        rotate_left
        · simp only [Act.put, List.setIfInBounds_toArray, List.set_cons_zero, List.set_cons_succ, i64_w, i32_w]
          rfl
        refine pure_ (i := 7) (N := some 69) (v := ?_) (a' := ?_) #[true, false, true, false, false, false, false, true, false, false, false, false, false] rfl rfl (by kernel_rfl) (fun _ _ _ h => h) (Or.inl ⟨by rfl, ?_⟩) ?_ ?_
        rotate_left
        · intro w'
          go_simp
          with_reducible rfl
        rotate_left
        · simp only [Act.put, List.setIfInBounds_toArray, List.set_cons_zero, List.set_cons_succ, i64_w, i32_w]
          rfl
        refine take_ (i := 1) (N := some 63) (v := ?_) (a' := ?_) #[true, true, true, false, false, false, false, true, false, false, false, false, false] rfl rfl (by kernel_rfl) (fun _ _ _ h => h) (Or.inl ⟨by rfl, ?_⟩) hHeld ?_ ?_
        rotate_left
        · rintro w' ⟨s0, s1⟩
          go_simp
          with_reducible rfl
        rotate_left
        · simp only [Act.put, List.setIfInBounds_toArray, List.set_cons_zero, List.set_cons_succ, i64_w, i32_w]
          rfl
        refine take_ (i := 3) (N := some 65) (v := ?_) (a' := ?_) #[true, true, true, true, false, false, false, true, false, false, false, false, false] rfl rfl (by kernel_rfl) (fun _ _ _ h => h) (Or.inl ⟨by rfl, ?_⟩) hHeld ?_ ?_
        rotate_left
        · rintro w' ⟨s0, s1⟩
          go_simp
          with_reducible rfl
        rotate_left
        · simp only [Act.put, List.setIfInBounds_toArray, List.set_cons_zero, List.set_cons_succ, i64_w, i32_w]
          rfl
        refine pure_ (i := 4) (N := some 66) (v := ?_) (a' := ?_) #[true, true, true, true, true, false, false, true, false, false, false, false, false] rfl rfl (by kernel_rfl) (fun _ _ _ h => h) (Or.inl ⟨by rfl, ?_⟩) ?_ ?_
        rotate_left
        · intro w'
          go_simp
          with_reducible rfl
        rotate_left
        · simp only [Act.put, List.setIfInBounds_toArray, List.set_cons_zero, List.set_cons_succ, i64_w, i32_w]
          rfl
        refine pure_ (i := 5) (N := some 67) (v := ?_) (a' := ?_) #[true, true, true, true, true, true, false, true, false, false, false, false, false] rfl rfl (by kernel_rfl) (fun _ _ _ h => h) (Or.inl ⟨by rfl, ?_⟩) ?_ ?_
        rotate_left
        · intro w'
          go_simp
          with_reducible rfl
        rotate_left
        · simp only [Act.put, List.setIfInBounds_toArray, List.set_cons_zero, List.set_cons_succ, i64_w, i32_w]
          rfl
        refine take_ (i := 6) (N := some 68) (v := ?_) (a' := ?_) #[true, true, true, true, true, true, true, true, false, false, false, false, false] rfl rfl (by kernel_rfl) (fun _ _ _ h => h) (Or.inl ⟨by rfl, ?_⟩) hHeld ?_ ?_
        rotate_left
        · rintro w' ⟨s0, s1⟩
          go_simp
          with_reducible rfl
        rotate_left
        · simp only [Act.put, List.setIfInBounds_toArray, List.set_cons_zero, List.set_cons_succ, i64_w, i32_w]
          rfl
        refine one_ (i := 8) (N := some 70) #[true, true, true, true, true, true, true, true, true, false, false, false, false] rfl rfl (by kernel_rfl) (by decide) (fun K hK => ?_)
        refine valueR_ (w1 := ?_) (v := ?_) (by rfl) rfl ?_ ?_
        rotate_left 2
        · go_simp
          constructor
          · rfl
          · rfl
        refine hK.out _ _ ⟨(cellB (below_alloc (Below.refl _ _) _) hHeld.1), (cellB (below_alloc (Below.refl _ _) _) hHeld.2)⟩ (fun hHeld => ?_)
        clear hK K
        refine norm_ (a' := ?_) ?_ ?_
        rotate_left
        · show Act.put _ (some 70) _ = _
          simp only [Act.put, List.setIfInBounds_toArray, List.set_cons_zero, List.set_cons_succ, i64_w, i32_w]
          rfl
        refine one_ (i := 9) (N := some 71) #[true, true, true, true, true, true, true, true, true, true, false, false, false] rfl rfl (by kernel_rfl) (by decide) (fun K hK => ?_)
        refine Kd.N_append_step (W := w22y.drew) k40 (w0 := w) w.heap.size (by rfl) (.tmp 68) (.tmp 70) 31 40 (.agg #[.int .u8 0, .int .i64 0, .int .i64 0, .float .f64 0, .slice none 0 0, .int .u8 0, .int .i64 0, .int .i64 0]) 80 (by rfl) Tryd.underlying31 infoNODE rfl (by decide) (by decide) (.slice ANF2 M1.length cNF2) M1 (⟨1, 0, 0, 0, [], 0, 0, 0⟩ : S40) [.int .u8 1, .int .i64 0, .int .i64 0, .float .f64 0, .slice none 0 0, .int .u8 0, .int .i64 0, .int .i64 0] (fun k => sA + 10 ≤ k) (fun _ => False) (by rfl) (by rfl) (FK_leafz _ _) (fun k hk => hk.elim) (fun k hk => Nat.le_trans SZ.out hk) (Kd.N_drew NF2.out) (below_drew HB.out) (below_size (below_drew HB.out)) (by have := ML.out; omega) ?_
        intro v23 w23 ho hb hg hat
        obtain ⟨MU, hMU⟩ : ∃ MU, MU = M1 ++ [(⟨1, 0, 0, 0, [], 0, 0, 0⟩ : S40)] := ⟨_, rfl⟩
        have N4 := N4_.out MU hMU
        have SMU := SMU_.out MU hMU
        replace N4 := Aside0.mk N4
        replace SMU := Aside0.mk SMU
        rw [← hMU] at ho
        clear hMU N4_ SMU_
        obtain ⟨ANF3, cNF3, rfl⟩ := Kd.N_slice ho
        have ne_ : ∀ k, k < sA + 10 → some k ≠ (Value.slice ANF2 M1.length cNF2).ownBlock := fun k hk he => by have h1 := NF2.out.1 k he.symm; have h2 : sA + 10 ≤ k := h1; omega
        have n_HB := Aside0.mk (hb)
        have n_SZ := Aside0.mk (Nat.le_trans SZ.out hg.size)
        have n_Bge := Aside0.mk (blk_grown (blk_drew Bge.out) hg (ne_ _ (by omega)))
        have n_Bgf := Aside0.mk (blk_grown (blk_drew Bgf.out) hg (ne_ _ (by omega)))
        have n_X1 := Aside0.mk (blk_grown (blk_drew X1.out) hg (ne_ _ (by omega)))
        have n_X2 := Aside0.mk (blk_grown (blk_drew X2.out) hg (ne_ _ (by omega)))
        have n_X3 := Aside0.mk (blk_grown (blk_drew X3.out) hg (ne_ _ (by omega)))
        have n_X4 := Aside0.mk (blk_grown (blk_drew X4.out) hg (ne_ _ (by omega)))
        have n_Y1 := Aside0.mk (blk_grown (blk_drew Y1.out) hg (ne_ _ (by omega)))
        have n_Y2 := Aside0.mk (blk_grown (blk_drew Y2.out) hg (ne_ _ (by omega)))
        have n_Y3 := Aside0.mk (blk_grown (blk_drew Y3.out) hg (ne_ _ (by omega)))
        have n_Y4 := Aside0.mk (blk_grown (blk_drew Y4.out) hg (ne_ _ (by omega)))
        have n_NE1 := Aside0.mk (Kd.N_grown (Kd.N_drew NE1.out) hg (fun k hk he => by have h1 := NB2.out k he.symm; have h2 := hk.2; omega))
        clear HB SZ Bge Bgf X1 X2 X3 X4 Y1 Y2 Y3 Y4 NE1
        have HB := n_HB
        have SZ := n_SZ
        have Bge := n_Bge
        have Bgf := n_Bgf
        have X1 := n_X1
        have X2 := n_X2
        have X3 := n_X3
        have X4 := n_X4
        have Y1 := n_Y1
        have Y2 := n_Y2
        have Y3 := n_Y3
        have Y4 := n_Y4
        have NE1 := n_NE1
        clear n_HB n_SZ n_Bge n_Bgf n_X1 n_X2 n_X3 n_X4 n_Y1 n_Y2 n_Y3 n_Y4 n_NE1
        have NF3 := Aside0.mk ho
        clear hb hg ho hat NF2 LM_NF2 NB2 ne_
        have te := Aside0.mk Y4.out
        have te2 := blk2 te.out
        refine hK.out _ _ ⟨((blk_cell Bgf.out 4).trans rfl), ((blk_cell te.out 1).trans rfl)⟩ (fun hHeld => ?_)
        clear hK K
        refine norm_ (a' := ?_) ?_ ?_
        rotate_left
        · show Act.put _ (some 71) _ = _
          simp only [Act.put, List.setIfInBounds_toArray, List.set_cons_zero, List.set_cons_succ, i64_w, i32_w]
          rfl
        refine pure_ (i := 10) (N := some 72) (v := ?_) (a' := ?_) #[true, true, true, true, true, true, true, true, true, true, true, false, false] rfl rfl (by kernel_rfl) (fun _ _ _ h => h) (Or.inl ⟨by rfl, ?_⟩) ?_ ?_
        rotate_left
        · intro w'
          go_simp
          with_reducible rfl
        rotate_left
        · simp only [Act.put, List.setIfInBounds_toArray, List.set_cons_zero, List.set_cons_succ, i64_w, i32_w]
          rfl
        refine pure_ (i := 11) (N := some 73) (v := ?_) (a' := ?_) #[true, true, true, true, true, true, true, true, true, true, true, true, false] rfl rfl (by kernel_rfl) (fun _ _ _ h => h) (Or.inl ⟨by rfl, ?_⟩) ?_ ?_
        rotate_left
        · intro w'
          go_simp
          with_reducible rfl
        rotate_left
        · simp only [Act.put, List.setIfInBounds_toArray, List.set_cons_zero, List.set_cons_succ, i64_w, i32_w]
          rfl
        refine lastR_ (i := 12) (N := none) #[true, true, true, true, true, true, true, true, true, true, true, true, true] rfl rfl (by kernel_rfl) (by decide) (fun K hK => ?_)
        refine skipR_ (w1 := ?_) (by rfl) rfl ?_ ?_
        rotate_left
        · go_simp
          rfl
        refine hK.out _ _ ?_
        clear hK K
        refine done_ (by kernel_rfl) ?_

        clear te te2 hHeld
        have n_HB := Aside0.mk (below_set (g := sA + 5 + 4) (j := 1) (v := .slice ANF3 MU.length cNF3) HB.out (by have := LO.out; have := Gge.out; have := Ggf.out; omega))
        have n_SZ := Aside0.mk (show sA + 10 ≤ (World.setCell _ ⟨sA + 5 + 4, 1, none⟩ (.slice ANF3 MU.length cNF3)).heap.size by rw [World.size_setCell]; exact SZ.out)
        have n_Bge := Aside0.mk (blk_far (p := ⟨sA + 5 + 4, 1, none⟩) Bge.out (show w1.heap.size ≠ sA + 5 + 4 by omega) (.slice ANF3 MU.length cNF3))
        have n_Bgf := Aside0.mk (blk_far (p := ⟨sA + 5 + 4, 1, none⟩) Bgf.out (show w2.heap.size ≠ sA + 5 + 4 by omega) (.slice ANF3 MU.length cNF3))
        have n_X1 := Aside0.mk (blk_far (p := ⟨sA + 5 + 4, 1, none⟩) X1.out (show sA + 1 ≠ sA + 5 + 4 by omega) (.slice ANF3 MU.length cNF3))
        have n_X2 := Aside0.mk (blk_far (p := ⟨sA + 5 + 4, 1, none⟩) X2.out (show sA + 2 ≠ sA + 5 + 4 by omega) (.slice ANF3 MU.length cNF3))
        have n_X3 := Aside0.mk (blk_far (p := ⟨sA + 5 + 4, 1, none⟩) X3.out (show sA + 3 ≠ sA + 5 + 4 by omega) (.slice ANF3 MU.length cNF3))
        have n_X4 := Aside0.mk (blk_far (p := ⟨sA + 5 + 4, 1, none⟩) X4.out (show sA + 4 ≠ sA + 5 + 4 by omega) (.slice ANF3 MU.length cNF3))
        have n_Y1 := Aside0.mk (blk_far (p := ⟨sA + 5 + 4, 1, none⟩) Y1.out (show sA + 5 + 1 ≠ sA + 5 + 4 by omega) (.slice ANF3 MU.length cNF3))
        have n_Y2 := Aside0.mk (blk_far (p := ⟨sA + 5 + 4, 1, none⟩) Y2.out (show sA + 5 + 2 ≠ sA + 5 + 4 by omega) (.slice ANF3 MU.length cNF3))
        have n_Y3 := Aside0.mk (blk_far (p := ⟨sA + 5 + 4, 1, none⟩) Y3.out (show sA + 5 + 3 ≠ sA + 5 + 4 by omega) (.slice ANF3 MU.length cNF3))
        have n_Y4 := Aside0.mk (show (World.setCell _ ⟨sA + 5 + 4, 1, none⟩ (.slice ANF3 MU.length cNF3)).heap[sA + 5 + 4]? = some (.cells #[.int .i64 0, .slice ANF3 MU.length cNF3] 33 (0, 0)) from blk_put Y4.out 1 (.slice ANF3 MU.length cNF3) rfl)
        have n_NE1 := Aside0.mk (Kd.N_step NE1.out (fun k hk _ => Below.heap_setCell _ ⟨sA + 5 + 4, 1, none⟩ (.slice ANF3 MU.length cNF3) k (show k ≠ sA + 5 + 4 by have h_ : sA + 10 ≤ k := hk.1; omega)))
        have n_NF3 := Aside0.mk (Kd.N_step NF3.out (fun k hk _ => Below.heap_setCell _ ⟨sA + 5 + 4, 1, none⟩ (.slice ANF3 MU.length cNF3) k (show k ≠ sA + 5 + 4 by have h_ : sA + 10 ≤ k := hk; omega)))
        clear HB SZ Bge Bgf X1 X2 X3 X4 Y1 Y2 Y3 Y4 NE1 NF3
        have HB := n_HB
        have SZ := n_SZ
        have Bge := n_Bge
        have Bgf := n_Bgf
        have X1 := n_X1
        have X2 := n_X2
        have X3 := n_X3
        have X4 := n_X4
        have Y1 := n_Y1
        have Y2 := n_Y2
        have Y3 := n_Y3
        have Y4 := n_Y4
        have NE1 := n_NE1
        have NF3 := n_NF3
        clear n_HB n_SZ n_Bge n_Bgf n_X1 n_X2 n_X3 n_X4 n_Y1 n_Y2 n_Y3 n_Y4 n_NE1 n_NF3
        obtain ⟨w23y, hwy⟩ : ∃ wy : World, wy = World.setCell w23 ⟨sA + 5 + 4, 1, none⟩ (.slice ANF3 MU.length cNF3) := ⟨_, rfl⟩
        replace HB := HB.out
        replace SZ := SZ.out
        replace Bge := Bge.out
        replace Bgf := Bgf.out
        replace X1 := X1.out
        replace X2 := X2.out
        replace X3 := X3.out
        replace X4 := X4.out
        replace Y1 := Y1.out
        replace Y2 := Y2.out
        replace Y3 := Y3.out
        replace Y4 := Y4.out
        replace NE1 := NE1.out
        replace NF3 := NF3.out
        rw [← hwy] at HB SZ Bge Bgf X1 X2 X3 X4 Y1 Y2 Y3 Y4 NE1 NF3
        replace HB := Aside0.mk HB
        replace SZ := Aside0.mk SZ
        replace Bge := Aside0.mk Bge
        replace Bgf := Aside0.mk Bgf
        replace X1 := Aside0.mk X1
        replace X2 := Aside0.mk X2
        replace X3 := Aside0.mk X3
        replace X4 := Aside0.mk X4
        replace Y1 := Aside0.mk Y1
        replace Y2 := Aside0.mk Y2
        replace Y3 := Aside0.mk Y3
        replace Y4 := Aside0.mk Y4
        replace NE1 := Aside0.mk NE1
        replace NF3 := Aside0.mk NF3
        rw [← hwy]
        clear hwy
        have LM_NF3 := Aside0.mk (Kd.N_reads' NF3.out)
        have ha := blk5 Bge.out
        have hb5 := blk5 Bgf.out
        go_wp2_with (fail)
        clear ha hb5
        refine (at_true smallN (some ⟨sA + 1, 0, none⟩) 1 smallF 1 (some ⟨sA + 2, 0, none⟩) 1 smallB (some ⟨sA + 4, 0, none⟩) 1 [⟨0, M1⟩] smallN (some ⟨sA + 5 + 1, 0, none⟩) 1 smallF 1 (some ⟨sA + 5 + 2, 0, none⟩) 1 smallB (some ⟨sA + 5 + 4, 0, none⟩) 1 [⟨0, MU⟩] _ ⟨tab_below htab.out (kB0 HB)⟩ ⟨C_str X1.out⟩ ZF ⟨C_int X2.out⟩ ⟨C_tree X4.out rfl LM_NE1.out.2.1 (Kd.N_reads' NE1.out).2.2⟩ SM1 ⟨C_str Y1.out⟩ ZF ⟨C_int Y2.out⟩ ⟨C_tree Y4.out rfl LM_NF3.out.2.1 (Kd.N_reads' NF3.out).2.2⟩ SMU 12 _ _ C3 N4).mono ?_
        rintro e w24 ⟨rfl, hb⟩
        have n_HB := Aside0.mk (below_step HB.out hb)
        have n_SZ := Aside0.mk (Nat.le_trans SZ.out hb.size)
        have n_Bge := Aside0.mk (blk_below Bge.out hb)
        have n_Bgf := Aside0.mk (blk_below Bgf.out hb)
        have n_X1 := Aside0.mk (blk_below X1.out hb)
        have n_X2 := Aside0.mk (blk_below X2.out hb)
        have n_X3 := Aside0.mk (blk_below X3.out hb)
        have n_X4 := Aside0.mk (blk_below X4.out hb)
        have n_Y1 := Aside0.mk (blk_below Y1.out hb)
        have n_Y2 := Aside0.mk (blk_below Y2.out hb)
        have n_Y3 := Aside0.mk (blk_below Y3.out hb)
        have n_Y4 := Aside0.mk (blk_below Y4.out hb)
        have n_NE1 := Aside0.mk (Kd.N_below NE1.out hb)
        have n_NF3 := Aside0.mk (Kd.N_below NF3.out hb)
        clear HB SZ Bge Bgf X1 X2 X3 X4 Y1 Y2 Y3 Y4 NE1 NF3
        have HB := n_HB
        have SZ := n_SZ
        have Bge := n_Bge
        have Bgf := n_Bgf
        have X1 := n_X1
        have X2 := n_X2
        have X3 := n_X3
        have X4 := n_X4
        have Y1 := n_Y1
        have Y2 := n_Y2
        have Y3 := n_Y3
        have Y4 := n_Y4
        have NE1 := n_NE1
        have NF3 := n_NF3
        clear n_HB n_SZ n_Bge n_Bgf n_X1 n_X2 n_X3 n_X4 n_Y1 n_Y2 n_Y3 n_Y4 n_NE1 n_NF3
        clear hb
        have h_gf := hgf_
        clear NE1 NF3 LM_NE1 LM_NF3 N4 SMU SM1 C3 KC1 X1 X2 X3 X4 Y1 Y2 Y3 Y4 LO hge_ hgf_
        have n_SZ := Aside0.mk (show w2.heap.size < w24.heap.size by have := SZ.out; omega)
        clear SZ h_gf
        have SZ := n_SZ
        clear n_SZ
        go_wp2_with (fail)
        obtain ⟨sB, hs_⟩ : ∃ s_ : Nat, w24.heap.size = s_ := ⟨_, rfl⟩
        have hge_ : w1.heap.size < sB := by have := SZ.out; omega
        have hgf_ : w2.heap.size < sB := by have := SZ.out; omega
        have LO := Aside0.mk (show w.heap.size ≤ sB by have := below_size HB.out; omega)
        refine (small_blk _ sB hs_).mono ?_
        rintro e w26 ⟨rfl, hz_, hs3, hb⟩
        clear SZ hs_
        have n_HB := Aside0.mk (below_step HB.out hb)
        have n_Bge := Aside0.mk (blk_below Bge.out hb)
        have n_Bgf := Aside0.mk (blk_below Bgf.out hb)
        clear HB Bge Bgf
        have HB := n_HB
        have Bge := n_Bge
        have Bgf := n_Bgf
        clear n_HB n_Bge n_Bgf
        have X1 := Aside0.mk hs3.b1
        have X2 := Aside0.mk hs3.b2
        have X3 := Aside0.mk hs3.b3
        have X4 := Aside0.mk hs3.b4
        clear hs3 hb
        have ha := blk5 (w := w26) Bge.out
        go_wp2_with (fail)
        clear ha
        have n_HB := Aside0.mk (show Below w.heap.size w (World.setCell (World.setCell (World.setCell (World.setCell (World.setCell w26 ⟨w1.heap.size, 0, none⟩ (.string smallN)) ⟨w1.heap.size, 1, none⟩ (.slice (some ⟨sB + 1, 0, none⟩) 1 1)) ⟨w1.heap.size, 2, none⟩ (.int .i64 1)) ⟨w1.heap.size, 3, none⟩ (.slice (some ⟨sB + 2, 0, none⟩) 1 1)) ⟨w1.heap.size, 4, none⟩ (.slice (some ⟨sB + 4, 0, none⟩) 1 1)) from put5_below HB.out (by have := Gge.out; have := Ggf.out; omega) (.string smallN) (.slice (some ⟨sB + 1, 0, none⟩) 1 1) (.int .i64 1) (.slice (some ⟨sB + 2, 0, none⟩) 1 1) (.slice (some ⟨sB + 4, 0, none⟩) 1 1))
        have n_Bge := Aside0.mk (show ((World.setCell (World.setCell (World.setCell (World.setCell (World.setCell w26 ⟨w1.heap.size, 0, none⟩ (.string smallN)) ⟨w1.heap.size, 1, none⟩ (.slice (some ⟨sB + 1, 0, none⟩) 1 1)) ⟨w1.heap.size, 2, none⟩ (.int .i64 1)) ⟨w1.heap.size, 3, none⟩ (.slice (some ⟨sB + 2, 0, none⟩) 1 1)) ⟨w1.heap.size, 4, none⟩ (.slice (some ⟨sB + 4, 0, none⟩) 1 1))).heap[w1.heap.size]? = some (.cells #[.string smallN, .slice (some ⟨sB + 1, 0, none⟩) 1 1, .int .i64 1, .slice (some ⟨sB + 2, 0, none⟩) 1 1, .slice (some ⟨sB + 4, 0, none⟩) 1 1] 26 (0, 0)) from put5_self Bge.out (.string smallN) (.slice (some ⟨sB + 1, 0, none⟩) 1 1) (.int .i64 1) (.slice (some ⟨sB + 2, 0, none⟩) 1 1) (.slice (some ⟨sB + 4, 0, none⟩) 1 1))
        have n_Bgf := Aside0.mk (show ((World.setCell (World.setCell (World.setCell (World.setCell (World.setCell w26 ⟨w1.heap.size, 0, none⟩ (.string smallN)) ⟨w1.heap.size, 1, none⟩ (.slice (some ⟨sB + 1, 0, none⟩) 1 1)) ⟨w1.heap.size, 2, none⟩ (.int .i64 1)) ⟨w1.heap.size, 3, none⟩ (.slice (some ⟨sB + 2, 0, none⟩) 1 1)) ⟨w1.heap.size, 4, none⟩ (.slice (some ⟨sB + 4, 0, none⟩) 1 1))).heap[w2.heap.size]? = _ from (put5_far _ w1.heap.size (.string smallN) (.slice (some ⟨sB + 1, 0, none⟩) 1 1) (.int .i64 1) (.slice (some ⟨sB + 2, 0, none⟩) 1 1) (.slice (some ⟨sB + 4, 0, none⟩) 1 1) (w2.heap.size) (show w2.heap.size ≠ w1.heap.size by omega)).trans Bgf.out)
        have n_X1 := Aside0.mk (show ((World.setCell (World.setCell (World.setCell (World.setCell (World.setCell w26 ⟨w1.heap.size, 0, none⟩ (.string smallN)) ⟨w1.heap.size, 1, none⟩ (.slice (some ⟨sB + 1, 0, none⟩) 1 1)) ⟨w1.heap.size, 2, none⟩ (.int .i64 1)) ⟨w1.heap.size, 3, none⟩ (.slice (some ⟨sB + 2, 0, none⟩) 1 1)) ⟨w1.heap.size, 4, none⟩ (.slice (some ⟨sB + 4, 0, none⟩) 1 1))).heap[sB + 1]? = _ from (put5_far _ w1.heap.size (.string smallN) (.slice (some ⟨sB + 1, 0, none⟩) 1 1) (.int .i64 1) (.slice (some ⟨sB + 2, 0, none⟩) 1 1) (.slice (some ⟨sB + 4, 0, none⟩) 1 1) (sB + 1) (show sB + 1 ≠ w1.heap.size by omega)).trans X1.out)
        have n_X2 := Aside0.mk (show ((World.setCell (World.setCell (World.setCell (World.setCell (World.setCell w26 ⟨w1.heap.size, 0, none⟩ (.string smallN)) ⟨w1.heap.size, 1, none⟩ (.slice (some ⟨sB + 1, 0, none⟩) 1 1)) ⟨w1.heap.size, 2, none⟩ (.int .i64 1)) ⟨w1.heap.size, 3, none⟩ (.slice (some ⟨sB + 2, 0, none⟩) 1 1)) ⟨w1.heap.size, 4, none⟩ (.slice (some ⟨sB + 4, 0, none⟩) 1 1))).heap[sB + 2]? = _ from (put5_far _ w1.heap.size (.string smallN) (.slice (some ⟨sB + 1, 0, none⟩) 1 1) (.int .i64 1) (.slice (some ⟨sB + 2, 0, none⟩) 1 1) (.slice (some ⟨sB + 4, 0, none⟩) 1 1) (sB + 2) (show sB + 2 ≠ w1.heap.size by omega)).trans X2.out)
        have n_X3 := Aside0.mk (show ((World.setCell (World.setCell (World.setCell (World.setCell (World.setCell w26 ⟨w1.heap.size, 0, none⟩ (.string smallN)) ⟨w1.heap.size, 1, none⟩ (.slice (some ⟨sB + 1, 0, none⟩) 1 1)) ⟨w1.heap.size, 2, none⟩ (.int .i64 1)) ⟨w1.heap.size, 3, none⟩ (.slice (some ⟨sB + 2, 0, none⟩) 1 1)) ⟨w1.heap.size, 4, none⟩ (.slice (some ⟨sB + 4, 0, none⟩) 1 1))).heap[sB + 3]? = _ from (put5_far _ w1.heap.size (.string smallN) (.slice (some ⟨sB + 1, 0, none⟩) 1 1) (.int .i64 1) (.slice (some ⟨sB + 2, 0, none⟩) 1 1) (.slice (some ⟨sB + 4, 0, none⟩) 1 1) (sB + 3) (show sB + 3 ≠ w1.heap.size by omega)).trans X3.out)
        have n_X4 := Aside0.mk (show ((World.setCell (World.setCell (World.setCell (World.setCell (World.setCell w26 ⟨w1.heap.size, 0, none⟩ (.string smallN)) ⟨w1.heap.size, 1, none⟩ (.slice (some ⟨sB + 1, 0, none⟩) 1 1)) ⟨w1.heap.size, 2, none⟩ (.int .i64 1)) ⟨w1.heap.size, 3, none⟩ (.slice (some ⟨sB + 2, 0, none⟩) 1 1)) ⟨w1.heap.size, 4, none⟩ (.slice (some ⟨sB + 4, 0, none⟩) 1 1))).heap[sB + 4]? = _ from (put5_far _ w1.heap.size (.string smallN) (.slice (some ⟨sB + 1, 0, none⟩) 1 1) (.int .i64 1) (.slice (some ⟨sB + 2, 0, none⟩) 1 1) (.slice (some ⟨sB + 4, 0, none⟩) 1 1) (sB + 4) (show sB + 4 ≠ w1.heap.size by omega)).trans X4.out)
        clear HB Bge Bgf X1 X2 X3 X4
        have HB := n_HB
        have Bge := n_Bge
        have Bgf := n_Bgf
        have X1 := n_X1
        have X2 := n_X2
        have X3 := n_X3
        have X4 := n_X4
        clear n_HB n_Bge n_Bgf n_X1 n_X2 n_X3 n_X4
        refine (small_blk _ (sB + 5) (by simp only [World.size_setCell]; exact hz_)).mono ?_
        rintro e w27 ⟨rfl, hz2_, hs3, hb⟩
        have n_HB := Aside0.mk (below_step HB.out hb)
        have n_Bge := Aside0.mk (blk_below Bge.out hb)
        have n_Bgf := Aside0.mk (blk_below Bgf.out hb)
        have n_X1 := Aside0.mk (blk_below X1.out hb)
        have n_X2 := Aside0.mk (blk_below X2.out hb)
        have n_X3 := Aside0.mk (blk_below X3.out hb)
        have n_X4 := Aside0.mk (blk_below X4.out hb)
        clear HB Bge Bgf X1 X2 X3 X4
        have HB := n_HB
        have Bge := n_Bge
        have Bgf := n_Bgf
        have X1 := n_X1
        have X2 := n_X2
        have X3 := n_X3
        have X4 := n_X4
        clear n_HB n_Bge n_Bgf n_X1 n_X2 n_X3 n_X4
        have Y1 := Aside0.mk hs3.b1
        have Y2 := Aside0.mk hs3.b2
        have Y3 := Aside0.mk hs3.b3
        have Y4 := Aside0.mk hs3.b4
        clear hs3 hb hz_
        have hb5 := blk5 (w := w27) Bgf.out
        go_upto_region 28 with (fail)
        clear hb5
        have n_HB := Aside0.mk (show Below w.heap.size w (World.setCell (World.setCell (World.setCell (World.setCell (World.setCell w27 ⟨w2.heap.size, 0, none⟩ (.string smallN)) ⟨w2.heap.size, 1, none⟩ (.slice (some ⟨sB + 5 + 1, 0, none⟩) 1 1)) ⟨w2.heap.size, 2, none⟩ (.int .i64 1)) ⟨w2.heap.size, 3, none⟩ (.slice (some ⟨sB + 5 + 2, 0, none⟩) 1 1)) ⟨w2.heap.size, 4, none⟩ (.slice (some ⟨sB + 5 + 4, 0, none⟩) 1 1)) from put5_below HB.out (by have := Gge.out; have := Ggf.out; omega) (.string smallN) (.slice (some ⟨sB + 5 + 1, 0, none⟩) 1 1) (.int .i64 1) (.slice (some ⟨sB + 5 + 2, 0, none⟩) 1 1) (.slice (some ⟨sB + 5 + 4, 0, none⟩) 1 1))
        have n_Bge := Aside0.mk (show ((World.setCell (World.setCell (World.setCell (World.setCell (World.setCell w27 ⟨w2.heap.size, 0, none⟩ (.string smallN)) ⟨w2.heap.size, 1, none⟩ (.slice (some ⟨sB + 5 + 1, 0, none⟩) 1 1)) ⟨w2.heap.size, 2, none⟩ (.int .i64 1)) ⟨w2.heap.size, 3, none⟩ (.slice (some ⟨sB + 5 + 2, 0, none⟩) 1 1)) ⟨w2.heap.size, 4, none⟩ (.slice (some ⟨sB + 5 + 4, 0, none⟩) 1 1))).heap[w1.heap.size]? = _ from (put5_far _ w2.heap.size (.string smallN) (.slice (some ⟨sB + 5 + 1, 0, none⟩) 1 1) (.int .i64 1) (.slice (some ⟨sB + 5 + 2, 0, none⟩) 1 1) (.slice (some ⟨sB + 5 + 4, 0, none⟩) 1 1) (w1.heap.size) (show w1.heap.size ≠ w2.heap.size by omega)).trans Bge.out)
        have n_Bgf := Aside0.mk (show ((World.setCell (World.setCell (World.setCell (World.setCell (World.setCell w27 ⟨w2.heap.size, 0, none⟩ (.string smallN)) ⟨w2.heap.size, 1, none⟩ (.slice (some ⟨sB + 5 + 1, 0, none⟩) 1 1)) ⟨w2.heap.size, 2, none⟩ (.int .i64 1)) ⟨w2.heap.size, 3, none⟩ (.slice (some ⟨sB + 5 + 2, 0, none⟩) 1 1)) ⟨w2.heap.size, 4, none⟩ (.slice (some ⟨sB + 5 + 4, 0, none⟩) 1 1))).heap[w2.heap.size]? = some (.cells #[.string smallN, .slice (some ⟨sB + 5 + 1, 0, none⟩) 1 1, .int .i64 1, .slice (some ⟨sB + 5 + 2, 0, none⟩) 1 1, .slice (some ⟨sB + 5 + 4, 0, none⟩) 1 1] 26 (0, 0)) from put5_self Bgf.out (.string smallN) (.slice (some ⟨sB + 5 + 1, 0, none⟩) 1 1) (.int .i64 1) (.slice (some ⟨sB + 5 + 2, 0, none⟩) 1 1) (.slice (some ⟨sB + 5 + 4, 0, none⟩) 1 1))
        have n_X1 := Aside0.mk (show ((World.setCell (World.setCell (World.setCell (World.setCell (World.setCell w27 ⟨w2.heap.size, 0, none⟩ (.string smallN)) ⟨w2.heap.size, 1, none⟩ (.slice (some ⟨sB + 5 + 1, 0, none⟩) 1 1)) ⟨w2.heap.size, 2, none⟩ (.int .i64 1)) ⟨w2.heap.size, 3, none⟩ (.slice (some ⟨sB + 5 + 2, 0, none⟩) 1 1)) ⟨w2.heap.size, 4, none⟩ (.slice (some ⟨sB + 5 + 4, 0, none⟩) 1 1))).heap[sB + 1]? = _ from (put5_far _ w2.heap.size (.string smallN) (.slice (some ⟨sB + 5 + 1, 0, none⟩) 1 1) (.int .i64 1) (.slice (some ⟨sB + 5 + 2, 0, none⟩) 1 1) (.slice (some ⟨sB + 5 + 4, 0, none⟩) 1 1) (sB + 1) (show sB + 1 ≠ w2.heap.size by omega)).trans X1.out)
        have n_X2 := Aside0.mk (show ((World.setCell (World.setCell (World.setCell (World.setCell (World.setCell w27 ⟨w2.heap.size, 0, none⟩ (.string smallN)) ⟨w2.heap.size, 1, none⟩ (.slice (some ⟨sB + 5 + 1, 0, none⟩) 1 1)) ⟨w2.heap.size, 2, none⟩ (.int .i64 1)) ⟨w2.heap.size, 3, none⟩ (.slice (some ⟨sB + 5 + 2, 0, none⟩) 1 1)) ⟨w2.heap.size, 4, none⟩ (.slice (some ⟨sB + 5 + 4, 0, none⟩) 1 1))).heap[sB + 2]? = _ from (put5_far _ w2.heap.size (.string smallN) (.slice (some ⟨sB + 5 + 1, 0, none⟩) 1 1) (.int .i64 1) (.slice (some ⟨sB + 5 + 2, 0, none⟩) 1 1) (.slice (some ⟨sB + 5 + 4, 0, none⟩) 1 1) (sB + 2) (show sB + 2 ≠ w2.heap.size by omega)).trans X2.out)
        have n_X3 := Aside0.mk (show ((World.setCell (World.setCell (World.setCell (World.setCell (World.setCell w27 ⟨w2.heap.size, 0, none⟩ (.string smallN)) ⟨w2.heap.size, 1, none⟩ (.slice (some ⟨sB + 5 + 1, 0, none⟩) 1 1)) ⟨w2.heap.size, 2, none⟩ (.int .i64 1)) ⟨w2.heap.size, 3, none⟩ (.slice (some ⟨sB + 5 + 2, 0, none⟩) 1 1)) ⟨w2.heap.size, 4, none⟩ (.slice (some ⟨sB + 5 + 4, 0, none⟩) 1 1))).heap[sB + 3]? = _ from (put5_far _ w2.heap.size (.string smallN) (.slice (some ⟨sB + 5 + 1, 0, none⟩) 1 1) (.int .i64 1) (.slice (some ⟨sB + 5 + 2, 0, none⟩) 1 1) (.slice (some ⟨sB + 5 + 4, 0, none⟩) 1 1) (sB + 3) (show sB + 3 ≠ w2.heap.size by omega)).trans X3.out)
        have n_X4 := Aside0.mk (show ((World.setCell (World.setCell (World.setCell (World.setCell (World.setCell w27 ⟨w2.heap.size, 0, none⟩ (.string smallN)) ⟨w2.heap.size, 1, none⟩ (.slice (some ⟨sB + 5 + 1, 0, none⟩) 1 1)) ⟨w2.heap.size, 2, none⟩ (.int .i64 1)) ⟨w2.heap.size, 3, none⟩ (.slice (some ⟨sB + 5 + 2, 0, none⟩) 1 1)) ⟨w2.heap.size, 4, none⟩ (.slice (some ⟨sB + 5 + 4, 0, none⟩) 1 1))).heap[sB + 4]? = _ from (put5_far _ w2.heap.size (.string smallN) (.slice (some ⟨sB + 5 + 1, 0, none⟩) 1 1) (.int .i64 1) (.slice (some ⟨sB + 5 + 2, 0, none⟩) 1 1) (.slice (some ⟨sB + 5 + 4, 0, none⟩) 1 1) (sB + 4) (show sB + 4 ≠ w2.heap.size by omega)).trans X4.out)
        have n_Y1 := Aside0.mk (show ((World.setCell (World.setCell (World.setCell (World.setCell (World.setCell w27 ⟨w2.heap.size, 0, none⟩ (.string smallN)) ⟨w2.heap.size, 1, none⟩ (.slice (some ⟨sB + 5 + 1, 0, none⟩) 1 1)) ⟨w2.heap.size, 2, none⟩ (.int .i64 1)) ⟨w2.heap.size, 3, none⟩ (.slice (some ⟨sB + 5 + 2, 0, none⟩) 1 1)) ⟨w2.heap.size, 4, none⟩ (.slice (some ⟨sB + 5 + 4, 0, none⟩) 1 1))).heap[sB + 5 + 1]? = _ from (put5_far _ w2.heap.size (.string smallN) (.slice (some ⟨sB + 5 + 1, 0, none⟩) 1 1) (.int .i64 1) (.slice (some ⟨sB + 5 + 2, 0, none⟩) 1 1) (.slice (some ⟨sB + 5 + 4, 0, none⟩) 1 1) (sB + 5 + 1) (show sB + 5 + 1 ≠ w2.heap.size by omega)).trans Y1.out)
        have n_Y2 := Aside0.mk (show ((World.setCell (World.setCell (World.setCell (World.setCell (World.setCell w27 ⟨w2.heap.size, 0, none⟩ (.string smallN)) ⟨w2.heap.size, 1, none⟩ (.slice (some ⟨sB + 5 + 1, 0, none⟩) 1 1)) ⟨w2.heap.size, 2, none⟩ (.int .i64 1)) ⟨w2.heap.size, 3, none⟩ (.slice (some ⟨sB + 5 + 2, 0, none⟩) 1 1)) ⟨w2.heap.size, 4, none⟩ (.slice (some ⟨sB + 5 + 4, 0, none⟩) 1 1))).heap[sB + 5 + 2]? = _ from (put5_far _ w2.heap.size (.string smallN) (.slice (some ⟨sB + 5 + 1, 0, none⟩) 1 1) (.int .i64 1) (.slice (some ⟨sB + 5 + 2, 0, none⟩) 1 1) (.slice (some ⟨sB + 5 + 4, 0, none⟩) 1 1) (sB + 5 + 2) (show sB + 5 + 2 ≠ w2.heap.size by omega)).trans Y2.out)
        have n_Y3 := Aside0.mk (show ((World.setCell (World.setCell (World.setCell (World.setCell (World.setCell w27 ⟨w2.heap.size, 0, none⟩ (.string smallN)) ⟨w2.heap.size, 1, none⟩ (.slice (some ⟨sB + 5 + 1, 0, none⟩) 1 1)) ⟨w2.heap.size, 2, none⟩ (.int .i64 1)) ⟨w2.heap.size, 3, none⟩ (.slice (some ⟨sB + 5 + 2, 0, none⟩) 1 1)) ⟨w2.heap.size, 4, none⟩ (.slice (some ⟨sB + 5 + 4, 0, none⟩) 1 1))).heap[sB + 5 + 3]? = _ from (put5_far _ w2.heap.size (.string smallN) (.slice (some ⟨sB + 5 + 1, 0, none⟩) 1 1) (.int .i64 1) (.slice (some ⟨sB + 5 + 2, 0, none⟩) 1 1) (.slice (some ⟨sB + 5 + 4, 0, none⟩) 1 1) (sB + 5 + 3) (show sB + 5 + 3 ≠ w2.heap.size by omega)).trans Y3.out)
        have n_Y4 := Aside0.mk (show ((World.setCell (World.setCell (World.setCell (World.setCell (World.setCell w27 ⟨w2.heap.size, 0, none⟩ (.string smallN)) ⟨w2.heap.size, 1, none⟩ (.slice (some ⟨sB + 5 + 1, 0, none⟩) 1 1)) ⟨w2.heap.size, 2, none⟩ (.int .i64 1)) ⟨w2.heap.size, 3, none⟩ (.slice (some ⟨sB + 5 + 2, 0, none⟩) 1 1)) ⟨w2.heap.size, 4, none⟩ (.slice (some ⟨sB + 5 + 4, 0, none⟩) 1 1))).heap[sB + 5 + 4]? = _ from (put5_far _ w2.heap.size (.string smallN) (.slice (some ⟨sB + 5 + 1, 0, none⟩) 1 1) (.int .i64 1) (.slice (some ⟨sB + 5 + 2, 0, none⟩) 1 1) (.slice (some ⟨sB + 5 + 4, 0, none⟩) 1 1) (sB + 5 + 4) (show sB + 5 + 4 ≠ w2.heap.size by omega)).trans Y4.out)
        clear HB Bge Bgf X1 X2 X3 X4 Y1 Y2 Y3 Y4
        have HB := n_HB
        have Bge := n_Bge
        have Bgf := n_Bgf
        have X1 := n_X1
        have X2 := n_X2
        have X3 := n_X3
        have X4 := n_X4
        have Y1 := n_Y1
        have Y2 := n_Y2
        have Y3 := n_Y3
        have Y4 := n_Y4
        clear n_HB n_Bge n_Bgf n_X1 n_X2 n_X3 n_X4 n_Y1 n_Y2 n_Y3 n_Y4
        have SZ := Aside0.mk (show sB + 10 ≤ ((World.setCell (World.setCell (World.setCell (World.setCell (World.setCell w27 ⟨w2.heap.size, 0, none⟩ (.string smallN)) ⟨w2.heap.size, 1, none⟩ (.slice (some ⟨sB + 5 + 1, 0, none⟩) 1 1)) ⟨w2.heap.size, 2, none⟩ (.int .i64 1)) ⟨w2.heap.size, 3, none⟩ (.slice (some ⟨sB + 5 + 2, 0, none⟩) 1 1)) ⟨w2.heap.size, 4, none⟩ (.slice (some ⟨sB + 5 + 4, 0, none⟩) 1 1))).heap.size by simp only [World.size_setCell]; omega)
        clear hz2_
        obtain ⟨w27y, hwy⟩ : ∃ wy : World, wy = (World.setCell (World.setCell (World.setCell (World.setCell (World.setCell w27 ⟨w2.heap.size, 0, none⟩ (.string smallN)) ⟨w2.heap.size, 1, none⟩ (.slice (some ⟨sB + 5 + 1, 0, none⟩) 1 1)) ⟨w2.heap.size, 2, none⟩ (.int .i64 1)) ⟨w2.heap.size, 3, none⟩ (.slice (some ⟨sB + 5 + 2, 0, none⟩) 1 1)) ⟨w2.heap.size, 4, none⟩ (.slice (some ⟨sB + 5 + 4, 0, none⟩) 1 1)) := ⟨_, rfl⟩
        replace HB := HB.out
        replace SZ := SZ.out
        replace Bge := Bge.out
        replace Bgf := Bgf.out
        replace X1 := X1.out
        replace X2 := X2.out
        replace X3 := X3.out
        replace X4 := X4.out
        replace Y1 := Y1.out
        replace Y2 := Y2.out
        replace Y3 := Y3.out
        replace Y4 := Y4.out
        rw [← hwy] at HB SZ Bge Bgf X1 X2 X3 X4 Y1 Y2 Y3 Y4
        replace HB := Aside0.mk HB
        replace SZ := Aside0.mk SZ
        replace Bge := Aside0.mk Bge
        replace Bgf := Aside0.mk Bgf
        replace X1 := Aside0.mk X1
        replace X2 := Aside0.mk X2
        replace X3 := Aside0.mk X3
        replace X4 := Aside0.mk X4
        replace Y1 := Aside0.mk Y1
        replace Y2 := Aside0.mk Y2
        replace Y3 := Aside0.mk Y3
        replace Y4 := Aside0.mk Y4
        rw [← hwy]
        clear hwy
        have ha := blk5 Bge.out
        go_upto_region 29 with (fail)
        clear ha
        have n_HB := Aside0.mk (below_set (g := w1.heap.size) (j := 2) (v := .int .i64 64) HB.out (by have := LO.out; have := Gge.out; have := Ggf.out; omega))
        have n_SZ := Aside0.mk (show sB + 10 ≤ (World.setCell _ ⟨w1.heap.size, 2, none⟩ (.int .i64 64)).heap.size by rw [World.size_setCell]; exact SZ.out)
        have n_Bge := Aside0.mk (show (World.setCell _ ⟨w1.heap.size, 2, none⟩ (.int .i64 64)).heap[w1.heap.size]? = some (.cells #[.string smallN, .slice (some ⟨sB + 1, 0, none⟩) 1 1, .int .i64 64, .slice (some ⟨sB + 2, 0, none⟩) 1 1, .slice (some ⟨sB + 4, 0, none⟩) 1 1] 26 (0, 0)) from blk_put Bge.out 2 (.int .i64 64) rfl)
        have n_Bgf := Aside0.mk (blk_far (p := ⟨w1.heap.size, 2, none⟩) Bgf.out (show w2.heap.size ≠ w1.heap.size by omega) (.int .i64 64))
        have n_X1 := Aside0.mk (blk_far (p := ⟨w1.heap.size, 2, none⟩) X1.out (show sB + 1 ≠ w1.heap.size by omega) (.int .i64 64))
        have n_X2 := Aside0.mk (blk_far (p := ⟨w1.heap.size, 2, none⟩) X2.out (show sB + 2 ≠ w1.heap.size by omega) (.int .i64 64))
        have n_X3 := Aside0.mk (blk_far (p := ⟨w1.heap.size, 2, none⟩) X3.out (show sB + 3 ≠ w1.heap.size by omega) (.int .i64 64))
        have n_X4 := Aside0.mk (blk_far (p := ⟨w1.heap.size, 2, none⟩) X4.out (show sB + 4 ≠ w1.heap.size by omega) (.int .i64 64))
        have n_Y1 := Aside0.mk (blk_far (p := ⟨w1.heap.size, 2, none⟩) Y1.out (show sB + 5 + 1 ≠ w1.heap.size by omega) (.int .i64 64))
        have n_Y2 := Aside0.mk (blk_far (p := ⟨w1.heap.size, 2, none⟩) Y2.out (show sB + 5 + 2 ≠ w1.heap.size by omega) (.int .i64 64))
        have n_Y3 := Aside0.mk (blk_far (p := ⟨w1.heap.size, 2, none⟩) Y3.out (show sB + 5 + 3 ≠ w1.heap.size by omega) (.int .i64 64))
        have n_Y4 := Aside0.mk (blk_far (p := ⟨w1.heap.size, 2, none⟩) Y4.out (show sB + 5 + 4 ≠ w1.heap.size by omega) (.int .i64 64))
        clear HB SZ Bge Bgf X1 X2 X3 X4 Y1 Y2 Y3 Y4
        have HB := n_HB
        have SZ := n_SZ
        have Bge := n_Bge
        have Bgf := n_Bgf
        have X1 := n_X1
        have X2 := n_X2
        have X3 := n_X3
        have X4 := n_X4
        have Y1 := n_Y1
        have Y2 := n_Y2
        have Y3 := n_Y3
        have Y4 := n_Y4
        clear n_HB n_SZ n_Bge n_Bgf n_X1 n_X2 n_X3 n_X4 n_Y1 n_Y2 n_Y3 n_Y4
        obtain ⟨w28y, hwy⟩ : ∃ wy : World, wy = World.setCell w27y ⟨w1.heap.size, 2, none⟩ (.int .i64 64) := ⟨_, rfl⟩
        replace HB := HB.out
        replace SZ := SZ.out
        replace Bge := Bge.out
        replace Bgf := Bgf.out
        replace X1 := X1.out
        replace X2 := X2.out
        replace X3 := X3.out
        replace X4 := X4.out
        replace Y1 := Y1.out
        replace Y2 := Y2.out
        replace Y3 := Y3.out
        replace Y4 := Y4.out
        rw [← hwy] at HB SZ Bge Bgf X1 X2 X3 X4 Y1 Y2 Y3 Y4
        replace HB := Aside0.mk HB
        replace SZ := Aside0.mk SZ
        replace Bge := Aside0.mk Bge
        replace Bgf := Aside0.mk Bgf
        replace X1 := Aside0.mk X1
        replace X2 := Aside0.mk X2
        replace X3 := Aside0.mk X3
        replace X4 := Aside0.mk X4
        replace Y1 := Aside0.mk Y1
        replace Y2 := Aside0.mk Y2
        replace Y3 := Aside0.mk Y3
        replace Y4 := Aside0.mk Y4
        rw [← hwy]
        clear hwy
        go_upto_region 30 with (first | ((with_reducible refine gate_dst (N := 81) rfl ?_); refine Kd.R_make (Kd.int .i64) (w0 := w) w.heap.size 2 rfl (N := 81) rfl 23 _ _ rfl (64 : Int) rfl rfl Tryd.underlying23 (.int .i64 0) 8 infoI64 rfl (by decide) (by decide) (0 : Int) (ok := fun k => sB + 10 ≤ k) (okp := fun _ => False) rfl (fun _ h => h.elim) SZ.out (by decide) (by decide) HB.out (below_size HB.out) ?_; intro v_ w29 ho hb hg hat; obtain ⟨LRB1, hL_⟩ : ∃ L_ : List Int, L_ = List.replicate (64 : Int).toNat (0 : Int) := ⟨_, rfl⟩; have KRB1 := Aside0.mk (C5_.out LRB1 hL_); rw [← hL_] at ho; clear hL_ C5_; obtain ⟨ARB1, cRB1, rfl, _, _⟩ := Kd.R_reads ho; have n_HB := Aside0.mk (hb); have n_SZ := Aside0.mk (Nat.le_trans SZ.out hg.size); have n_Bge := Aside0.mk (blk_grown Bge.out hg (by simp)); have n_Bgf := Aside0.mk (blk_grown Bgf.out hg (by simp)); have n_X1 := Aside0.mk (blk_grown X1.out hg (by simp)); have n_X2 := Aside0.mk (blk_grown X2.out hg (by simp)); have n_X3 := Aside0.mk (blk_grown X3.out hg (by simp)); have n_X4 := Aside0.mk (blk_grown X4.out hg (by simp)); have n_Y1 := Aside0.mk (blk_grown Y1.out hg (by simp)); have n_Y2 := Aside0.mk (blk_grown Y2.out hg (by simp)); have n_Y3 := Aside0.mk (blk_grown Y3.out hg (by simp)); have n_Y4 := Aside0.mk (blk_grown Y4.out hg (by simp)); clear HB SZ Bge Bgf X1 X2 X3 X4 Y1 Y2 Y3 Y4; have HB := n_HB; have SZ := n_SZ; have Bge := n_Bge; have Bgf := n_Bgf; have X1 := n_X1; have X2 := n_X2; have X3 := n_X3; have X4 := n_X4; have Y1 := n_Y1; have Y2 := n_Y2; have Y3 := n_Y3; have Y4 := n_Y4; clear n_HB n_SZ n_Bge n_Bgf n_X1 n_X2 n_X3 n_X4 n_Y1 n_Y2 n_Y3 n_Y4; have RB1 := Aside0.mk ho; clear hb hg ho hat; have ha := blk5 Bge.out))
        clear ha
        have n_HB := Aside0.mk (below_set (g := w1.heap.size) (j := 3) (v := .slice ARB1 LRB1.length cRB1) HB.out (by have := LO.out; have := Gge.out; have := Ggf.out; omega))
        have n_SZ := Aside0.mk (show sB + 10 ≤ (World.setCell _ ⟨w1.heap.size, 3, none⟩ (.slice ARB1 LRB1.length cRB1)).heap.size by rw [World.size_setCell]; exact SZ.out)
        have n_Bge := Aside0.mk (show (World.setCell _ ⟨w1.heap.size, 3, none⟩ (.slice ARB1 LRB1.length cRB1)).heap[w1.heap.size]? = some (.cells #[.string smallN, .slice (some ⟨sB + 1, 0, none⟩) 1 1, .int .i64 64, .slice ARB1 LRB1.length cRB1, .slice (some ⟨sB + 4, 0, none⟩) 1 1] 26 (0, 0)) from blk_put Bge.out 3 (.slice ARB1 LRB1.length cRB1) rfl)
        have n_Bgf := Aside0.mk (blk_far (p := ⟨w1.heap.size, 3, none⟩) Bgf.out (show w2.heap.size ≠ w1.heap.size by omega) (.slice ARB1 LRB1.length cRB1))
        have n_X1 := Aside0.mk (blk_far (p := ⟨w1.heap.size, 3, none⟩) X1.out (show sB + 1 ≠ w1.heap.size by omega) (.slice ARB1 LRB1.length cRB1))
        have n_X2 := Aside0.mk (blk_far (p := ⟨w1.heap.size, 3, none⟩) X2.out (show sB + 2 ≠ w1.heap.size by omega) (.slice ARB1 LRB1.length cRB1))
        have n_X3 := Aside0.mk (blk_far (p := ⟨w1.heap.size, 3, none⟩) X3.out (show sB + 3 ≠ w1.heap.size by omega) (.slice ARB1 LRB1.length cRB1))
        have n_X4 := Aside0.mk (blk_far (p := ⟨w1.heap.size, 3, none⟩) X4.out (show sB + 4 ≠ w1.heap.size by omega) (.slice ARB1 LRB1.length cRB1))
        have n_Y1 := Aside0.mk (blk_far (p := ⟨w1.heap.size, 3, none⟩) Y1.out (show sB + 5 + 1 ≠ w1.heap.size by omega) (.slice ARB1 LRB1.length cRB1))
        have n_Y2 := Aside0.mk (blk_far (p := ⟨w1.heap.size, 3, none⟩) Y2.out (show sB + 5 + 2 ≠ w1.heap.size by omega) (.slice ARB1 LRB1.length cRB1))
        have n_Y3 := Aside0.mk (blk_far (p := ⟨w1.heap.size, 3, none⟩) Y3.out (show sB + 5 + 3 ≠ w1.heap.size by omega) (.slice ARB1 LRB1.length cRB1))
        have n_Y4 := Aside0.mk (blk_far (p := ⟨w1.heap.size, 3, none⟩) Y4.out (show sB + 5 + 4 ≠ w1.heap.size by omega) (.slice ARB1 LRB1.length cRB1))
        have n_RB1 := Aside0.mk (Kd.R_step RB1.out (fun k hk _ => Below.heap_setCell _ ⟨w1.heap.size, 3, none⟩ (.slice ARB1 LRB1.length cRB1) k (show k ≠ w1.heap.size by have h_ : sB + 10 ≤ k := hk; omega)))
        clear HB SZ Bge Bgf X1 X2 X3 X4 Y1 Y2 Y3 Y4 RB1
        have HB := n_HB
        have SZ := n_SZ
        have Bge := n_Bge
        have Bgf := n_Bgf
        have X1 := n_X1
        have X2 := n_X2
        have X3 := n_X3
        have X4 := n_X4
        have Y1 := n_Y1
        have Y2 := n_Y2
        have Y3 := n_Y3
        have Y4 := n_Y4
        have RB1 := n_RB1
        clear n_HB n_SZ n_Bge n_Bgf n_X1 n_X2 n_X3 n_X4 n_Y1 n_Y2 n_Y3 n_Y4 n_RB1
        obtain ⟨w29y, hwy⟩ : ∃ wy : World, wy = World.setCell w29 ⟨w1.heap.size, 3, none⟩ (.slice ARB1 LRB1.length cRB1) := ⟨_, rfl⟩
        replace HB := HB.out
        replace SZ := SZ.out
        replace Bge := Bge.out
        replace Bgf := Bgf.out
        replace X1 := X1.out
        replace X2 := X2.out
        replace X3 := X3.out
        replace X4 := X4.out
        replace Y1 := Y1.out
        replace Y2 := Y2.out
        replace Y3 := Y3.out
        replace Y4 := Y4.out
        replace RB1 := RB1.out
        rw [← hwy] at HB SZ Bge Bgf X1 X2 X3 X4 Y1 Y2 Y3 Y4 RB1
        replace HB := Aside0.mk HB
        replace SZ := Aside0.mk SZ
        replace Bge := Aside0.mk Bge
        replace Bgf := Aside0.mk Bgf
        replace X1 := Aside0.mk X1
        replace X2 := Aside0.mk X2
        replace X3 := Aside0.mk X3
        replace X4 := Aside0.mk X4
        replace Y1 := Aside0.mk Y1
        replace Y2 := Aside0.mk Y2
        replace Y3 := Aside0.mk Y3
        replace Y4 := Aside0.mk Y4
        replace RB1 := Aside0.mk RB1
        rw [← hwy]
        clear hwy
        have ha := blk5 Bgf.out
        go_upto_region 31 with (fail)
        clear ha
        have n_HB := Aside0.mk (below_set (g := w2.heap.size) (j := 2) (v := .int .i64 65) HB.out (by have := LO.out; have := Gge.out; have := Ggf.out; omega))
        have n_SZ := Aside0.mk (show sB + 10 ≤ (World.setCell _ ⟨w2.heap.size, 2, none⟩ (.int .i64 65)).heap.size by rw [World.size_setCell]; exact SZ.out)
        have n_Bge := Aside0.mk (blk_far (p := ⟨w2.heap.size, 2, none⟩) Bge.out (show w1.heap.size ≠ w2.heap.size by omega) (.int .i64 65))
        have n_Bgf := Aside0.mk (show (World.setCell _ ⟨w2.heap.size, 2, none⟩ (.int .i64 65)).heap[w2.heap.size]? = some (.cells #[.string smallN, .slice (some ⟨sB + 5 + 1, 0, none⟩) 1 1, .int .i64 65, .slice (some ⟨sB + 5 + 2, 0, none⟩) 1 1, .slice (some ⟨sB + 5 + 4, 0, none⟩) 1 1] 26 (0, 0)) from blk_put Bgf.out 2 (.int .i64 65) rfl)
        have n_X1 := Aside0.mk (blk_far (p := ⟨w2.heap.size, 2, none⟩) X1.out (show sB + 1 ≠ w2.heap.size by omega) (.int .i64 65))
        have n_X2 := Aside0.mk (blk_far (p := ⟨w2.heap.size, 2, none⟩) X2.out (show sB + 2 ≠ w2.heap.size by omega) (.int .i64 65))
        have n_X3 := Aside0.mk (blk_far (p := ⟨w2.heap.size, 2, none⟩) X3.out (show sB + 3 ≠ w2.heap.size by omega) (.int .i64 65))
        have n_X4 := Aside0.mk (blk_far (p := ⟨w2.heap.size, 2, none⟩) X4.out (show sB + 4 ≠ w2.heap.size by omega) (.int .i64 65))
        have n_Y1 := Aside0.mk (blk_far (p := ⟨w2.heap.size, 2, none⟩) Y1.out (show sB + 5 + 1 ≠ w2.heap.size by omega) (.int .i64 65))
        have n_Y2 := Aside0.mk (blk_far (p := ⟨w2.heap.size, 2, none⟩) Y2.out (show sB + 5 + 2 ≠ w2.heap.size by omega) (.int .i64 65))
        have n_Y3 := Aside0.mk (blk_far (p := ⟨w2.heap.size, 2, none⟩) Y3.out (show sB + 5 + 3 ≠ w2.heap.size by omega) (.int .i64 65))
        have n_Y4 := Aside0.mk (blk_far (p := ⟨w2.heap.size, 2, none⟩) Y4.out (show sB + 5 + 4 ≠ w2.heap.size by omega) (.int .i64 65))
        have n_RB1 := Aside0.mk (Kd.R_step RB1.out (fun k hk _ => Below.heap_setCell _ ⟨w2.heap.size, 2, none⟩ (.int .i64 65) k (show k ≠ w2.heap.size by have h_ : sB + 10 ≤ k := hk; omega)))
        clear HB SZ Bge Bgf X1 X2 X3 X4 Y1 Y2 Y3 Y4 RB1
        have HB := n_HB
        have SZ := n_SZ
        have Bge := n_Bge
        have Bgf := n_Bgf
        have X1 := n_X1
        have X2 := n_X2
        have X3 := n_X3
        have X4 := n_X4
        have Y1 := n_Y1
        have Y2 := n_Y2
        have Y3 := n_Y3
        have Y4 := n_Y4
        have RB1 := n_RB1
        clear n_HB n_SZ n_Bge n_Bgf n_X1 n_X2 n_X3 n_X4 n_Y1 n_Y2 n_Y3 n_Y4 n_RB1
        obtain ⟨w30y, hwy⟩ : ∃ wy : World, wy = World.setCell w29y ⟨w2.heap.size, 2, none⟩ (.int .i64 65) := ⟨_, rfl⟩
        replace HB := HB.out
        replace SZ := SZ.out
        replace Bge := Bge.out
        replace Bgf := Bgf.out
        replace X1 := X1.out
        replace X2 := X2.out
        replace X3 := X3.out
        replace X4 := X4.out
        replace Y1 := Y1.out
        replace Y2 := Y2.out
        replace Y3 := Y3.out
        replace Y4 := Y4.out
        replace RB1 := RB1.out
        rw [← hwy] at HB SZ Bge Bgf X1 X2 X3 X4 Y1 Y2 Y3 Y4 RB1
        replace HB := Aside0.mk HB
        replace SZ := Aside0.mk SZ
        replace Bge := Aside0.mk Bge
        replace Bgf := Aside0.mk Bgf
        replace X1 := Aside0.mk X1
        replace X2 := Aside0.mk X2
        replace X3 := Aside0.mk X3
        replace X4 := Aside0.mk X4
        replace Y1 := Aside0.mk Y1
        replace Y2 := Aside0.mk Y2
        replace Y3 := Aside0.mk Y3
        replace Y4 := Aside0.mk Y4
        replace RB1 := Aside0.mk RB1
        rw [← hwy]
        clear hwy
        go_upto_region 32 with (first | ((with_reducible refine gate_dst (N := 84) rfl ?_); refine Kd.R_make (Kd.int .i64) (w0 := w) w.heap.size 2 rfl (N := 84) rfl 23 _ _ rfl (65 : Int) rfl rfl Tryd.underlying23 (.int .i64 0) 8 infoI64 rfl (by decide) (by decide) (0 : Int) (ok := fun k => sB + 10 ≤ k) (okp := fun _ => False) rfl (fun _ h => h.elim) SZ.out (by decide) (by decide) HB.out (below_size HB.out) ?_; intro v_ w31 ho hb hg hat; obtain ⟨LRB2, hL_⟩ : ∃ L_ : List Int, L_ = List.replicate (65 : Int).toNat (0 : Int) := ⟨_, rfl⟩; have KRB2 := Aside0.mk (N5_.out LRB2 hL_); rw [← hL_] at ho; clear hL_ N5_; obtain ⟨ARB2, cRB2, rfl, _, _⟩ := Kd.R_reads ho; have n_HB := Aside0.mk (hb); have n_SZ := Aside0.mk (Nat.le_trans SZ.out hg.size); have n_Bge := Aside0.mk (blk_grown Bge.out hg (by simp)); have n_Bgf := Aside0.mk (blk_grown Bgf.out hg (by simp)); have n_X1 := Aside0.mk (blk_grown X1.out hg (by simp)); have n_X2 := Aside0.mk (blk_grown X2.out hg (by simp)); have n_X3 := Aside0.mk (blk_grown X3.out hg (by simp)); have n_X4 := Aside0.mk (blk_grown X4.out hg (by simp)); have n_Y1 := Aside0.mk (blk_grown Y1.out hg (by simp)); have n_Y2 := Aside0.mk (blk_grown Y2.out hg (by simp)); have n_Y3 := Aside0.mk (blk_grown Y3.out hg (by simp)); have n_Y4 := Aside0.mk (blk_grown Y4.out hg (by simp)); have n_RB1 := Aside0.mk (Kd.R_grown RB1.out hg (fun _ _ => by simp)); clear HB SZ Bge Bgf X1 X2 X3 X4 Y1 Y2 Y3 Y4 RB1; have HB := n_HB; have SZ := n_SZ; have Bge := n_Bge; have Bgf := n_Bgf; have X1 := n_X1; have X2 := n_X2; have X3 := n_X3; have X4 := n_X4; have Y1 := n_Y1; have Y2 := n_Y2; have Y3 := n_Y3; have Y4 := n_Y4; have RB1 := n_RB1; clear n_HB n_SZ n_Bge n_Bgf n_X1 n_X2 n_X3 n_X4 n_Y1 n_Y2 n_Y3 n_Y4 n_RB1; have RB2 := Aside0.mk ho; clear hb hg ho hat; have ha := blk5 Bgf.out))
        clear ha
        have n_HB := Aside0.mk (below_set (g := w2.heap.size) (j := 3) (v := .slice ARB2 LRB2.length cRB2) HB.out (by have := LO.out; have := Gge.out; have := Ggf.out; omega))
        have n_SZ := Aside0.mk (show sB + 10 ≤ (World.setCell _ ⟨w2.heap.size, 3, none⟩ (.slice ARB2 LRB2.length cRB2)).heap.size by rw [World.size_setCell]; exact SZ.out)
        have n_Bge := Aside0.mk (blk_far (p := ⟨w2.heap.size, 3, none⟩) Bge.out (show w1.heap.size ≠ w2.heap.size by omega) (.slice ARB2 LRB2.length cRB2))
        have n_Bgf := Aside0.mk (show (World.setCell _ ⟨w2.heap.size, 3, none⟩ (.slice ARB2 LRB2.length cRB2)).heap[w2.heap.size]? = some (.cells #[.string smallN, .slice (some ⟨sB + 5 + 1, 0, none⟩) 1 1, .int .i64 65, .slice ARB2 LRB2.length cRB2, .slice (some ⟨sB + 5 + 4, 0, none⟩) 1 1] 26 (0, 0)) from blk_put Bgf.out 3 (.slice ARB2 LRB2.length cRB2) rfl)
        have n_X1 := Aside0.mk (blk_far (p := ⟨w2.heap.size, 3, none⟩) X1.out (show sB + 1 ≠ w2.heap.size by omega) (.slice ARB2 LRB2.length cRB2))
        have n_X2 := Aside0.mk (blk_far (p := ⟨w2.heap.size, 3, none⟩) X2.out (show sB + 2 ≠ w2.heap.size by omega) (.slice ARB2 LRB2.length cRB2))
        have n_X3 := Aside0.mk (blk_far (p := ⟨w2.heap.size, 3, none⟩) X3.out (show sB + 3 ≠ w2.heap.size by omega) (.slice ARB2 LRB2.length cRB2))
        have n_X4 := Aside0.mk (blk_far (p := ⟨w2.heap.size, 3, none⟩) X4.out (show sB + 4 ≠ w2.heap.size by omega) (.slice ARB2 LRB2.length cRB2))
        have n_Y1 := Aside0.mk (blk_far (p := ⟨w2.heap.size, 3, none⟩) Y1.out (show sB + 5 + 1 ≠ w2.heap.size by omega) (.slice ARB2 LRB2.length cRB2))
        have n_Y2 := Aside0.mk (blk_far (p := ⟨w2.heap.size, 3, none⟩) Y2.out (show sB + 5 + 2 ≠ w2.heap.size by omega) (.slice ARB2 LRB2.length cRB2))
        have n_Y3 := Aside0.mk (blk_far (p := ⟨w2.heap.size, 3, none⟩) Y3.out (show sB + 5 + 3 ≠ w2.heap.size by omega) (.slice ARB2 LRB2.length cRB2))
        have n_Y4 := Aside0.mk (blk_far (p := ⟨w2.heap.size, 3, none⟩) Y4.out (show sB + 5 + 4 ≠ w2.heap.size by omega) (.slice ARB2 LRB2.length cRB2))
        have n_RB1 := Aside0.mk (Kd.R_step RB1.out (fun k hk _ => Below.heap_setCell _ ⟨w2.heap.size, 3, none⟩ (.slice ARB2 LRB2.length cRB2) k (show k ≠ w2.heap.size by have h_ : sB + 10 ≤ k := hk; omega)))
        have n_RB2 := Aside0.mk (Kd.R_step RB2.out (fun k hk _ => Below.heap_setCell _ ⟨w2.heap.size, 3, none⟩ (.slice ARB2 LRB2.length cRB2) k (show k ≠ w2.heap.size by have h_ : sB + 10 ≤ k := hk; omega)))
        clear HB SZ Bge Bgf X1 X2 X3 X4 Y1 Y2 Y3 Y4 RB1 RB2
        have HB := n_HB
        have SZ := n_SZ
        have Bge := n_Bge
        have Bgf := n_Bgf
        have X1 := n_X1
        have X2 := n_X2
        have X3 := n_X3
        have X4 := n_X4
        have Y1 := n_Y1
        have Y2 := n_Y2
        have Y3 := n_Y3
        have Y4 := n_Y4
        have RB1 := n_RB1
        have RB2 := n_RB2
        clear n_HB n_SZ n_Bge n_Bgf n_X1 n_X2 n_X3 n_X4 n_Y1 n_Y2 n_Y3 n_Y4 n_RB1 n_RB2
        obtain ⟨w31y, hwy⟩ : ∃ wy : World, wy = World.setCell w31 ⟨w2.heap.size, 3, none⟩ (.slice ARB2 LRB2.length cRB2) := ⟨_, rfl⟩
        replace HB := HB.out
        replace SZ := SZ.out
        replace Bge := Bge.out
        replace Bgf := Bgf.out
        replace X1 := X1.out
        replace X2 := X2.out
        replace X3 := X3.out
        replace X4 := X4.out
        replace Y1 := Y1.out
        replace Y2 := Y2.out
        replace Y3 := Y3.out
        replace Y4 := Y4.out
        replace RB1 := RB1.out
        replace RB2 := RB2.out
        rw [← hwy] at HB SZ Bge Bgf X1 X2 X3 X4 Y1 Y2 Y3 Y4 RB1 RB2
        replace HB := Aside0.mk HB
        replace SZ := Aside0.mk SZ
        replace Bge := Aside0.mk Bge
        replace Bgf := Aside0.mk Bgf
        replace X1 := Aside0.mk X1
        replace X2 := Aside0.mk X2
        replace X3 := Aside0.mk X3
        replace X4 := Aside0.mk X4
        replace Y1 := Aside0.mk Y1
        replace Y2 := Aside0.mk Y2
        replace Y3 := Aside0.mk Y3
        replace Y4 := Aside0.mk Y4
        replace RB1 := Aside0.mk RB1
        replace RB2 := Aside0.mk RB2
        rw [← hwy]
        clear hwy
        have ha := blk5 Bge.out
        have hb5 := blk5 Bgf.out
        go_wp2_with (fail)
        clear ha hb5
        refine (at_true smallN (some ⟨sB + 1, 0, none⟩) 1 smallF 64 ARB1 cRB1 LRB1 (some ⟨sB + 4, 0, none⟩) 1 smallT smallN (some ⟨sB + 5 + 1, 0, none⟩) 1 smallF 65 ARB2 cRB2 LRB2 (some ⟨sB + 5 + 4, 0, none⟩) 1 smallT _ ⟨tab_below htab.out (kB0 HB)⟩ ⟨C_str X1.out⟩ ZF ⟨(Kd.R_reads' RB1.out).2.2⟩ ⟨C_tree X4.out rfl (Nat.le_refl _) (C_leaf X3.out)⟩ SS ⟨C_str Y1.out⟩ ZF ⟨(Kd.R_reads' RB2.out).2.2⟩ ⟨C_tree Y4.out rfl (Nat.le_refl _) (C_leaf Y3.out)⟩ SS 5 _ _ KRB1 KRB2).mono ?_
        rintro e w32 ⟨rfl, hb⟩
        have n_HB := Aside0.mk (below_step HB.out hb)
        have n_SZ := Aside0.mk (Nat.le_trans SZ.out hb.size)
        have n_Bge := Aside0.mk (blk_below Bge.out hb)
        have n_Bgf := Aside0.mk (blk_below Bgf.out hb)
        have n_X1 := Aside0.mk (blk_below X1.out hb)
        have n_X2 := Aside0.mk (blk_below X2.out hb)
        have n_X3 := Aside0.mk (blk_below X3.out hb)
        have n_X4 := Aside0.mk (blk_below X4.out hb)
        have n_Y1 := Aside0.mk (blk_below Y1.out hb)
        have n_Y2 := Aside0.mk (blk_below Y2.out hb)
        have n_Y3 := Aside0.mk (blk_below Y3.out hb)
        have n_Y4 := Aside0.mk (blk_below Y4.out hb)
        have n_RB1 := Aside0.mk (Kd.R_below RB1.out hb)
        have n_RB2 := Aside0.mk (Kd.R_below RB2.out hb)
        clear HB SZ Bge Bgf X1 X2 X3 X4 Y1 Y2 Y3 Y4 RB1 RB2
        have HB := n_HB
        have SZ := n_SZ
        have Bge := n_Bge
        have Bgf := n_Bgf
        have X1 := n_X1
        have X2 := n_X2
        have X3 := n_X3
        have X4 := n_X4
        have Y1 := n_Y1
        have Y2 := n_Y2
        have Y3 := n_Y3
        have Y4 := n_Y4
        have RB1 := n_RB1
        have RB2 := n_RB2
        clear n_HB n_SZ n_Bge n_Bgf n_X1 n_X2 n_X3 n_X4 n_Y1 n_Y2 n_Y3 n_Y4 n_RB1 n_RB2
        clear hb
        have h_gf := hgf_
        clear RB1 RB2 KRB1 KRB2 X1 X2 X3 X4 Y1 Y2 Y3 Y4 LO hge_ hgf_
        have n_SZ := Aside0.mk (show w2.heap.size < w32.heap.size by have := SZ.out; omega)
        clear SZ h_gf
        have SZ := n_SZ
        clear n_SZ
        go_wp2_with (fail)
        obtain ⟨sC, hs_⟩ : ∃ s_ : Nat, w32.heap.size = s_ := ⟨_, rfl⟩
        have hge_ : w1.heap.size < sC := by have := SZ.out; omega
        have hgf_ : w2.heap.size < sC := by have := SZ.out; omega
        have LO := Aside0.mk (show w.heap.size ≤ sC by have := below_size HB.out; omega)
        refine (small_blk _ sC hs_).mono ?_
        rintro e w34 ⟨rfl, hz_, hs3, hb⟩
        clear SZ hs_
        have n_HB := Aside0.mk (below_step HB.out hb)
        have n_Bge := Aside0.mk (blk_below Bge.out hb)
        have n_Bgf := Aside0.mk (blk_below Bgf.out hb)
        clear HB Bge Bgf
        have HB := n_HB
        have Bge := n_Bge
        have Bgf := n_Bgf
        clear n_HB n_Bge n_Bgf
        have X1 := Aside0.mk hs3.b1
        have X2 := Aside0.mk hs3.b2
        have X3 := Aside0.mk hs3.b3
        have X4 := Aside0.mk hs3.b4
        clear hs3 hb
        have ha := blk5 (w := w34) Bge.out
        go_wp2_with (fail)
        clear ha
        have n_HB := Aside0.mk (show Below w.heap.size w (World.setCell (World.setCell (World.setCell (World.setCell (World.setCell w34 ⟨w1.heap.size, 0, none⟩ (.string smallN)) ⟨w1.heap.size, 1, none⟩ (.slice (some ⟨sC + 1, 0, none⟩) 1 1)) ⟨w1.heap.size, 2, none⟩ (.int .i64 1)) ⟨w1.heap.size, 3, none⟩ (.slice (some ⟨sC + 2, 0, none⟩) 1 1)) ⟨w1.heap.size, 4, none⟩ (.slice (some ⟨sC + 4, 0, none⟩) 1 1)) from put5_below HB.out (by have := Gge.out; have := Ggf.out; omega) (.string smallN) (.slice (some ⟨sC + 1, 0, none⟩) 1 1) (.int .i64 1) (.slice (some ⟨sC + 2, 0, none⟩) 1 1) (.slice (some ⟨sC + 4, 0, none⟩) 1 1))
        have n_Bge := Aside0.mk (show ((World.setCell (World.setCell (World.setCell (World.setCell (World.setCell w34 ⟨w1.heap.size, 0, none⟩ (.string smallN)) ⟨w1.heap.size, 1, none⟩ (.slice (some ⟨sC + 1, 0, none⟩) 1 1)) ⟨w1.heap.size, 2, none⟩ (.int .i64 1)) ⟨w1.heap.size, 3, none⟩ (.slice (some ⟨sC + 2, 0, none⟩) 1 1)) ⟨w1.heap.size, 4, none⟩ (.slice (some ⟨sC + 4, 0, none⟩) 1 1))).heap[w1.heap.size]? = some (.cells #[.string smallN, .slice (some ⟨sC + 1, 0, none⟩) 1 1, .int .i64 1, .slice (some ⟨sC + 2, 0, none⟩) 1 1, .slice (some ⟨sC + 4, 0, none⟩) 1 1] 26 (0, 0)) from put5_self Bge.out (.string smallN) (.slice (some ⟨sC + 1, 0, none⟩) 1 1) (.int .i64 1) (.slice (some ⟨sC + 2, 0, none⟩) 1 1) (.slice (some ⟨sC + 4, 0, none⟩) 1 1))
        have n_Bgf := Aside0.mk (show ((World.setCell (World.setCell (World.setCell (World.setCell (World.setCell w34 ⟨w1.heap.size, 0, none⟩ (.string smallN)) ⟨w1.heap.size, 1, none⟩ (.slice (some ⟨sC + 1, 0, none⟩) 1 1)) ⟨w1.heap.size, 2, none⟩ (.int .i64 1)) ⟨w1.heap.size, 3, none⟩ (.slice (some ⟨sC + 2, 0, none⟩) 1 1)) ⟨w1.heap.size, 4, none⟩ (.slice (some ⟨sC + 4, 0, none⟩) 1 1))).heap[w2.heap.size]? = _ from (put5_far _ w1.heap.size (.string smallN) (.slice (some ⟨sC + 1, 0, none⟩) 1 1) (.int .i64 1) (.slice (some ⟨sC + 2, 0, none⟩) 1 1) (.slice (some ⟨sC + 4, 0, none⟩) 1 1) (w2.heap.size) (show w2.heap.size ≠ w1.heap.size by omega)).trans Bgf.out)
        have n_X1 := Aside0.mk (show ((World.setCell (World.setCell (World.setCell (World.setCell (World.setCell w34 ⟨w1.heap.size, 0, none⟩ (.string smallN)) ⟨w1.heap.size, 1, none⟩ (.slice (some ⟨sC + 1, 0, none⟩) 1 1)) ⟨w1.heap.size, 2, none⟩ (.int .i64 1)) ⟨w1.heap.size, 3, none⟩ (.slice (some ⟨sC + 2, 0, none⟩) 1 1)) ⟨w1.heap.size, 4, none⟩ (.slice (some ⟨sC + 4, 0, none⟩) 1 1))).heap[sC + 1]? = _ from (put5_far _ w1.heap.size (.string smallN) (.slice (some ⟨sC + 1, 0, none⟩) 1 1) (.int .i64 1) (.slice (some ⟨sC + 2, 0, none⟩) 1 1) (.slice (some ⟨sC + 4, 0, none⟩) 1 1) (sC + 1) (show sC + 1 ≠ w1.heap.size by omega)).trans X1.out)
        have n_X2 := Aside0.mk (show ((World.setCell (World.setCell (World.setCell (World.setCell (World.setCell w34 ⟨w1.heap.size, 0, none⟩ (.string smallN)) ⟨w1.heap.size, 1, none⟩ (.slice (some ⟨sC + 1, 0, none⟩) 1 1)) ⟨w1.heap.size, 2, none⟩ (.int .i64 1)) ⟨w1.heap.size, 3, none⟩ (.slice (some ⟨sC + 2, 0, none⟩) 1 1)) ⟨w1.heap.size, 4, none⟩ (.slice (some ⟨sC + 4, 0, none⟩) 1 1))).heap[sC + 2]? = _ from (put5_far _ w1.heap.size (.string smallN) (.slice (some ⟨sC + 1, 0, none⟩) 1 1) (.int .i64 1) (.slice (some ⟨sC + 2, 0, none⟩) 1 1) (.slice (some ⟨sC + 4, 0, none⟩) 1 1) (sC + 2) (show sC + 2 ≠ w1.heap.size by omega)).trans X2.out)
        have n_X3 := Aside0.mk (show ((World.setCell (World.setCell (World.setCell (World.setCell (World.setCell w34 ⟨w1.heap.size, 0, none⟩ (.string smallN)) ⟨w1.heap.size, 1, none⟩ (.slice (some ⟨sC + 1, 0, none⟩) 1 1)) ⟨w1.heap.size, 2, none⟩ (.int .i64 1)) ⟨w1.heap.size, 3, none⟩ (.slice (some ⟨sC + 2, 0, none⟩) 1 1)) ⟨w1.heap.size, 4, none⟩ (.slice (some ⟨sC + 4, 0, none⟩) 1 1))).heap[sC + 3]? = _ from (put5_far _ w1.heap.size (.string smallN) (.slice (some ⟨sC + 1, 0, none⟩) 1 1) (.int .i64 1) (.slice (some ⟨sC + 2, 0, none⟩) 1 1) (.slice (some ⟨sC + 4, 0, none⟩) 1 1) (sC + 3) (show sC + 3 ≠ w1.heap.size by omega)).trans X3.out)
        have n_X4 := Aside0.mk (show ((World.setCell (World.setCell (World.setCell (World.setCell (World.setCell w34 ⟨w1.heap.size, 0, none⟩ (.string smallN)) ⟨w1.heap.size, 1, none⟩ (.slice (some ⟨sC + 1, 0, none⟩) 1 1)) ⟨w1.heap.size, 2, none⟩ (.int .i64 1)) ⟨w1.heap.size, 3, none⟩ (.slice (some ⟨sC + 2, 0, none⟩) 1 1)) ⟨w1.heap.size, 4, none⟩ (.slice (some ⟨sC + 4, 0, none⟩) 1 1))).heap[sC + 4]? = _ from (put5_far _ w1.heap.size (.string smallN) (.slice (some ⟨sC + 1, 0, none⟩) 1 1) (.int .i64 1) (.slice (some ⟨sC + 2, 0, none⟩) 1 1) (.slice (some ⟨sC + 4, 0, none⟩) 1 1) (sC + 4) (show sC + 4 ≠ w1.heap.size by omega)).trans X4.out)
        clear HB Bge Bgf X1 X2 X3 X4
        have HB := n_HB
        have Bge := n_Bge
        have Bgf := n_Bgf
        have X1 := n_X1
        have X2 := n_X2
        have X3 := n_X3
        have X4 := n_X4
        clear n_HB n_Bge n_Bgf n_X1 n_X2 n_X3 n_X4
        refine (small_blk _ (sC + 5) (by simp only [World.size_setCell]; exact hz_)).mono ?_
        rintro e w35 ⟨rfl, hz2_, hs3, hb⟩
        have n_HB := Aside0.mk (below_step HB.out hb)
        have n_Bge := Aside0.mk (blk_below Bge.out hb)
        have n_Bgf := Aside0.mk (blk_below Bgf.out hb)
        have n_X1 := Aside0.mk (blk_below X1.out hb)
        have n_X2 := Aside0.mk (blk_below X2.out hb)
        have n_X3 := Aside0.mk (blk_below X3.out hb)
        have n_X4 := Aside0.mk (blk_below X4.out hb)
        clear HB Bge Bgf X1 X2 X3 X4
        have HB := n_HB
        have Bge := n_Bge
        have Bgf := n_Bgf
        have X1 := n_X1
        have X2 := n_X2
        have X3 := n_X3
        have X4 := n_X4
        clear n_HB n_Bge n_Bgf n_X1 n_X2 n_X3 n_X4
        have Y1 := Aside0.mk hs3.b1
        have Y2 := Aside0.mk hs3.b2
        have Y3 := Aside0.mk hs3.b3
        have Y4 := Aside0.mk hs3.b4
        clear hs3 hb hz_
        have hb5 := blk5 (w := w35) Bgf.out
        go_upto_region 36 with (fail)
        clear hb5
        have n_HB := Aside0.mk (show Below w.heap.size w (World.setCell (World.setCell (World.setCell (World.setCell (World.setCell w35 ⟨w2.heap.size, 0, none⟩ (.string smallN)) ⟨w2.heap.size, 1, none⟩ (.slice (some ⟨sC + 5 + 1, 0, none⟩) 1 1)) ⟨w2.heap.size, 2, none⟩ (.int .i64 1)) ⟨w2.heap.size, 3, none⟩ (.slice (some ⟨sC + 5 + 2, 0, none⟩) 1 1)) ⟨w2.heap.size, 4, none⟩ (.slice (some ⟨sC + 5 + 4, 0, none⟩) 1 1)) from put5_below HB.out (by have := Gge.out; have := Ggf.out; omega) (.string smallN) (.slice (some ⟨sC + 5 + 1, 0, none⟩) 1 1) (.int .i64 1) (.slice (some ⟨sC + 5 + 2, 0, none⟩) 1 1) (.slice (some ⟨sC + 5 + 4, 0, none⟩) 1 1))
        have n_Bge := Aside0.mk (show ((World.setCell (World.setCell (World.setCell (World.setCell (World.setCell w35 ⟨w2.heap.size, 0, none⟩ (.string smallN)) ⟨w2.heap.size, 1, none⟩ (.slice (some ⟨sC + 5 + 1, 0, none⟩) 1 1)) ⟨w2.heap.size, 2, none⟩ (.int .i64 1)) ⟨w2.heap.size, 3, none⟩ (.slice (some ⟨sC + 5 + 2, 0, none⟩) 1 1)) ⟨w2.heap.size, 4, none⟩ (.slice (some ⟨sC + 5 + 4, 0, none⟩) 1 1))).heap[w1.heap.size]? = _ from (put5_far _ w2.heap.size (.string smallN) (.slice (some ⟨sC + 5 + 1, 0, none⟩) 1 1) (.int .i64 1) (.slice (some ⟨sC + 5 + 2, 0, none⟩) 1 1) (.slice (some ⟨sC + 5 + 4, 0, none⟩) 1 1) (w1.heap.size) (show w1.heap.size ≠ w2.heap.size by omega)).trans Bge.out)
        have n_Bgf := Aside0.mk (show ((World.setCell (World.setCell (World.setCell (World.setCell (World.setCell w35 ⟨w2.heap.size, 0, none⟩ (.string smallN)) ⟨w2.heap.size, 1, none⟩ (.slice (some ⟨sC + 5 + 1, 0, none⟩) 1 1)) ⟨w2.heap.size, 2, none⟩ (.int .i64 1)) ⟨w2.heap.size, 3, none⟩ (.slice (some ⟨sC + 5 + 2, 0, none⟩) 1 1)) ⟨w2.heap.size, 4, none⟩ (.slice (some ⟨sC + 5 + 4, 0, none⟩) 1 1))).heap[w2.heap.size]? = some (.cells #[.string smallN, .slice (some ⟨sC + 5 + 1, 0, none⟩) 1 1, .int .i64 1, .slice (some ⟨sC + 5 + 2, 0, none⟩) 1 1, .slice (some ⟨sC + 5 + 4, 0, none⟩) 1 1] 26 (0, 0)) from put5_self Bgf.out (.string smallN) (.slice (some ⟨sC + 5 + 1, 0, none⟩) 1 1) (.int .i64 1) (.slice (some ⟨sC + 5 + 2, 0, none⟩) 1 1) (.slice (some ⟨sC + 5 + 4, 0, none⟩) 1 1))
        have n_X1 := Aside0.mk (show ((World.setCell (World.setCell (World.setCell (World.setCell (World.setCell w35 ⟨w2.heap.size, 0, none⟩ (.string smallN)) ⟨w2.heap.size, 1, none⟩ (.slice (some ⟨sC + 5 + 1, 0, none⟩) 1 1)) ⟨w2.heap.size, 2, none⟩ (.int .i64 1)) ⟨w2.heap.size, 3, none⟩ (.slice (some ⟨sC + 5 + 2, 0, none⟩) 1 1)) ⟨w2.heap.size, 4, none⟩ (.slice (some ⟨sC + 5 + 4, 0, none⟩) 1 1))).heap[sC + 1]? = _ from (put5_far _ w2.heap.size (.string smallN) (.slice (some ⟨sC + 5 + 1, 0, none⟩) 1 1) (.int .i64 1) (.slice (some ⟨sC + 5 + 2, 0, none⟩) 1 1) (.slice (some ⟨sC + 5 + 4, 0, none⟩) 1 1) (sC + 1) (show sC + 1 ≠ w2.heap.size by omega)).trans X1.out)
        have n_X2 := Aside0.mk (show ((World.setCell (World.setCell (World.setCell (World.setCell (World.setCell w35 ⟨w2.heap.size, 0, none⟩ (.string smallN)) ⟨w2.heap.size, 1, none⟩ (.slice (some ⟨sC + 5 + 1, 0, none⟩) 1 1)) ⟨w2.heap.size, 2, none⟩ (.int .i64 1)) ⟨w2.heap.size, 3, none⟩ (.slice (some ⟨sC + 5 + 2, 0, none⟩) 1 1)) ⟨w2.heap.size, 4, none⟩ (.slice (some ⟨sC + 5 + 4, 0, none⟩) 1 1))).heap[sC + 2]? = _ from (put5_far _ w2.heap.size (.string smallN) (.slice (some ⟨sC + 5 + 1, 0, none⟩) 1 1) (.int .i64 1) (.slice (some ⟨sC + 5 + 2, 0, none⟩) 1 1) (.slice (some ⟨sC + 5 + 4, 0, none⟩) 1 1) (sC + 2) (show sC + 2 ≠ w2.heap.size by omega)).trans X2.out)
        have n_X3 := Aside0.mk (show ((World.setCell (World.setCell (World.setCell (World.setCell (World.setCell w35 ⟨w2.heap.size, 0, none⟩ (.string smallN)) ⟨w2.heap.size, 1, none⟩ (.slice (some ⟨sC + 5 + 1, 0, none⟩) 1 1)) ⟨w2.heap.size, 2, none⟩ (.int .i64 1)) ⟨w2.heap.size, 3, none⟩ (.slice (some ⟨sC + 5 + 2, 0, none⟩) 1 1)) ⟨w2.heap.size, 4, none⟩ (.slice (some ⟨sC + 5 + 4, 0, none⟩) 1 1))).heap[sC + 3]? = _ from (put5_far _ w2.heap.size (.string smallN) (.slice (some ⟨sC + 5 + 1, 0, none⟩) 1 1) (.int .i64 1) (.slice (some ⟨sC + 5 + 2, 0, none⟩) 1 1) (.slice (some ⟨sC + 5 + 4, 0, none⟩) 1 1) (sC + 3) (show sC + 3 ≠ w2.heap.size by omega)).trans X3.out)
        have n_X4 := Aside0.mk (show ((World.setCell (World.setCell (World.setCell (World.setCell (World.setCell w35 ⟨w2.heap.size, 0, none⟩ (.string smallN)) ⟨w2.heap.size, 1, none⟩ (.slice (some ⟨sC + 5 + 1, 0, none⟩) 1 1)) ⟨w2.heap.size, 2, none⟩ (.int .i64 1)) ⟨w2.heap.size, 3, none⟩ (.slice (some ⟨sC + 5 + 2, 0, none⟩) 1 1)) ⟨w2.heap.size, 4, none⟩ (.slice (some ⟨sC + 5 + 4, 0, none⟩) 1 1))).heap[sC + 4]? = _ from (put5_far _ w2.heap.size (.string smallN) (.slice (some ⟨sC + 5 + 1, 0, none⟩) 1 1) (.int .i64 1) (.slice (some ⟨sC + 5 + 2, 0, none⟩) 1 1) (.slice (some ⟨sC + 5 + 4, 0, none⟩) 1 1) (sC + 4) (show sC + 4 ≠ w2.heap.size by omega)).trans X4.out)
        have n_Y1 := Aside0.mk (show ((World.setCell (World.setCell (World.setCell (World.setCell (World.setCell w35 ⟨w2.heap.size, 0, none⟩ (.string smallN)) ⟨w2.heap.size, 1, none⟩ (.slice (some ⟨sC + 5 + 1, 0, none⟩) 1 1)) ⟨w2.heap.size, 2, none⟩ (.int .i64 1)) ⟨w2.heap.size, 3, none⟩ (.slice (some ⟨sC + 5 + 2, 0, none⟩) 1 1)) ⟨w2.heap.size, 4, none⟩ (.slice (some ⟨sC + 5 + 4, 0, none⟩) 1 1))).heap[sC + 5 + 1]? = _ from (put5_far _ w2.heap.size (.string smallN) (.slice (some ⟨sC + 5 + 1, 0, none⟩) 1 1) (.int .i64 1) (.slice (some ⟨sC + 5 + 2, 0, none⟩) 1 1) (.slice (some ⟨sC + 5 + 4, 0, none⟩) 1 1) (sC + 5 + 1) (show sC + 5 + 1 ≠ w2.heap.size by omega)).trans Y1.out)
        have n_Y2 := Aside0.mk (show ((World.setCell (World.setCell (World.setCell (World.setCell (World.setCell w35 ⟨w2.heap.size, 0, none⟩ (.string smallN)) ⟨w2.heap.size, 1, none⟩ (.slice (some ⟨sC + 5 + 1, 0, none⟩) 1 1)) ⟨w2.heap.size, 2, none⟩ (.int .i64 1)) ⟨w2.heap.size, 3, none⟩ (.slice (some ⟨sC + 5 + 2, 0, none⟩) 1 1)) ⟨w2.heap.size, 4, none⟩ (.slice (some ⟨sC + 5 + 4, 0, none⟩) 1 1))).heap[sC + 5 + 2]? = _ from (put5_far _ w2.heap.size (.string smallN) (.slice (some ⟨sC + 5 + 1, 0, none⟩) 1 1) (.int .i64 1) (.slice (some ⟨sC + 5 + 2, 0, none⟩) 1 1) (.slice (some ⟨sC + 5 + 4, 0, none⟩) 1 1) (sC + 5 + 2) (show sC + 5 + 2 ≠ w2.heap.size by omega)).trans Y2.out)
        have n_Y3 := Aside0.mk (show ((World.setCell (World.setCell (World.setCell (World.setCell (World.setCell w35 ⟨w2.heap.size, 0, none⟩ (.string smallN)) ⟨w2.heap.size, 1, none⟩ (.slice (some ⟨sC + 5 + 1, 0, none⟩) 1 1)) ⟨w2.heap.size, 2, none⟩ (.int .i64 1)) ⟨w2.heap.size, 3, none⟩ (.slice (some ⟨sC + 5 + 2, 0, none⟩) 1 1)) ⟨w2.heap.size, 4, none⟩ (.slice (some ⟨sC + 5 + 4, 0, none⟩) 1 1))).heap[sC + 5 + 3]? = _ from (put5_far _ w2.heap.size (.string smallN) (.slice (some ⟨sC + 5 + 1, 0, none⟩) 1 1) (.int .i64 1) (.slice (some ⟨sC + 5 + 2, 0, none⟩) 1 1) (.slice (some ⟨sC + 5 + 4, 0, none⟩) 1 1) (sC + 5 + 3) (show sC + 5 + 3 ≠ w2.heap.size by omega)).trans Y3.out)
        have n_Y4 := Aside0.mk (show ((World.setCell (World.setCell (World.setCell (World.setCell (World.setCell w35 ⟨w2.heap.size, 0, none⟩ (.string smallN)) ⟨w2.heap.size, 1, none⟩ (.slice (some ⟨sC + 5 + 1, 0, none⟩) 1 1)) ⟨w2.heap.size, 2, none⟩ (.int .i64 1)) ⟨w2.heap.size, 3, none⟩ (.slice (some ⟨sC + 5 + 2, 0, none⟩) 1 1)) ⟨w2.heap.size, 4, none⟩ (.slice (some ⟨sC + 5 + 4, 0, none⟩) 1 1))).heap[sC + 5 + 4]? = _ from (put5_far _ w2.heap.size (.string smallN) (.slice (some ⟨sC + 5 + 1, 0, none⟩) 1 1) (.int .i64 1) (.slice (some ⟨sC + 5 + 2, 0, none⟩) 1 1) (.slice (some ⟨sC + 5 + 4, 0, none⟩) 1 1) (sC + 5 + 4) (show sC + 5 + 4 ≠ w2.heap.size by omega)).trans Y4.out)
        clear HB Bge Bgf X1 X2 X3 X4 Y1 Y2 Y3 Y4
        have HB := n_HB
        have Bge := n_Bge
        have Bgf := n_Bgf
        have X1 := n_X1
        have X2 := n_X2
        have X3 := n_X3
        have X4 := n_X4
        have Y1 := n_Y1
        have Y2 := n_Y2
        have Y3 := n_Y3
        have Y4 := n_Y4
        clear n_HB n_Bge n_Bgf n_X1 n_X2 n_X3 n_X4 n_Y1 n_Y2 n_Y3 n_Y4
        have SZ := Aside0.mk (show sC + 10 ≤ ((World.setCell (World.setCell (World.setCell (World.setCell (World.setCell w35 ⟨w2.heap.size, 0, none⟩ (.string smallN)) ⟨w2.heap.size, 1, none⟩ (.slice (some ⟨sC + 5 + 1, 0, none⟩) 1 1)) ⟨w2.heap.size, 2, none⟩ (.int .i64 1)) ⟨w2.heap.size, 3, none⟩ (.slice (some ⟨sC + 5 + 2, 0, none⟩) 1 1)) ⟨w2.heap.size, 4, none⟩ (.slice (some ⟨sC + 5 + 4, 0, none⟩) 1 1))).heap.size by simp only [World.size_setCell]; omega)
        clear hz2_
        obtain ⟨w35y, hwy⟩ : ∃ wy : World, wy = (World.setCell (World.setCell (World.setCell (World.setCell (World.setCell w35 ⟨w2.heap.size, 0, none⟩ (.string smallN)) ⟨w2.heap.size, 1, none⟩ (.slice (some ⟨sC + 5 + 1, 0, none⟩) 1 1)) ⟨w2.heap.size, 2, none⟩ (.int .i64 1)) ⟨w2.heap.size, 3, none⟩ (.slice (some ⟨sC + 5 + 2, 0, none⟩) 1 1)) ⟨w2.heap.size, 4, none⟩ (.slice (some ⟨sC + 5 + 4, 0, none⟩) 1 1)) := ⟨_, rfl⟩
        replace HB := HB.out
        replace SZ := SZ.out
        replace Bge := Bge.out
        replace Bgf := Bgf.out
        replace X1 := X1.out
        replace X2 := X2.out
        replace X3 := X3.out
        replace X4 := X4.out
        replace Y1 := Y1.out
        replace Y2 := Y2.out
        replace Y3 := Y3.out
        replace Y4 := Y4.out
        rw [← hwy] at HB SZ Bge Bgf X1 X2 X3 X4 Y1 Y2 Y3 Y4
        replace HB := Aside0.mk HB
        replace SZ := Aside0.mk SZ
        replace Bge := Aside0.mk Bge
        replace Bgf := Aside0.mk Bgf
        replace X1 := Aside0.mk X1
        replace X2 := Aside0.mk X2
        replace X3 := Aside0.mk X3
        replace X4 := Aside0.mk X4
        replace Y1 := Aside0.mk Y1
        replace Y2 := Aside0.mk Y2
        replace Y3 := Aside0.mk Y3
        replace Y4 := Aside0.mk Y4
        rw [← hwy]
        clear hwy
        have ha := blk5 Bge.out
        have hx := (blk_cell X2.out 0).trans rfl
        have hy := blk_frozen X2.out 0
        go_upto_region 37 with (fail)
        clear ha hx hy
        have n_HB := Aside0.mk (below_set (g := sC + 2) (j := 0) (v := .int .i64 (-4611686018427387898)) HB.out (by have := LO.out; have := Gge.out; have := Ggf.out; omega))
        have n_SZ := Aside0.mk (show sC + 10 ≤ (World.setCell _ ⟨sC + 2, 0, none⟩ (.int .i64 (-4611686018427387898))).heap.size by rw [World.size_setCell]; exact SZ.out)
        have n_Bge := Aside0.mk (blk_far (p := ⟨sC + 2, 0, none⟩) Bge.out (show w1.heap.size ≠ sC + 2 by omega) (.int .i64 (-4611686018427387898)))
        have n_Bgf := Aside0.mk (blk_far (p := ⟨sC + 2, 0, none⟩) Bgf.out (show w2.heap.size ≠ sC + 2 by omega) (.int .i64 (-4611686018427387898)))
        have n_X1 := Aside0.mk (blk_far (p := ⟨sC + 2, 0, none⟩) X1.out (show sC + 1 ≠ sC + 2 by omega) (.int .i64 (-4611686018427387898)))
        have n_X2 := Aside0.mk (show (World.setCell _ ⟨sC + 2, 0, none⟩ (.int .i64 (-4611686018427387898))).heap[sC + 2]? = some (.cells #[.int .i64 (-4611686018427387898)] 2 (0, 0)) from blk_put X2.out 0 (.int .i64 (-4611686018427387898)) rfl)
        have n_X3 := Aside0.mk (blk_far (p := ⟨sC + 2, 0, none⟩) X3.out (show sC + 3 ≠ sC + 2 by omega) (.int .i64 (-4611686018427387898)))
        have n_X4 := Aside0.mk (blk_far (p := ⟨sC + 2, 0, none⟩) X4.out (show sC + 4 ≠ sC + 2 by omega) (.int .i64 (-4611686018427387898)))
        have n_Y1 := Aside0.mk (blk_far (p := ⟨sC + 2, 0, none⟩) Y1.out (show sC + 5 + 1 ≠ sC + 2 by omega) (.int .i64 (-4611686018427387898)))
        have n_Y2 := Aside0.mk (blk_far (p := ⟨sC + 2, 0, none⟩) Y2.out (show sC + 5 + 2 ≠ sC + 2 by omega) (.int .i64 (-4611686018427387898)))
        have n_Y3 := Aside0.mk (blk_far (p := ⟨sC + 2, 0, none⟩) Y3.out (show sC + 5 + 3 ≠ sC + 2 by omega) (.int .i64 (-4611686018427387898)))
        have n_Y4 := Aside0.mk (blk_far (p := ⟨sC + 2, 0, none⟩) Y4.out (show sC + 5 + 4 ≠ sC + 2 by omega) (.int .i64 (-4611686018427387898)))
        clear HB SZ Bge Bgf X1 X2 X3 X4 Y1 Y2 Y3 Y4
        have HB := n_HB
        have SZ := n_SZ
        have Bge := n_Bge
        have Bgf := n_Bgf
        have X1 := n_X1
        have X2 := n_X2
        have X3 := n_X3
        have X4 := n_X4
        have Y1 := n_Y1
        have Y2 := n_Y2
        have Y3 := n_Y3
        have Y4 := n_Y4
        clear n_HB n_SZ n_Bge n_Bgf n_X1 n_X2 n_X3 n_X4 n_Y1 n_Y2 n_Y3 n_Y4
        obtain ⟨w36y, hwy⟩ : ∃ wy : World, wy = World.setCell w35y ⟨sC + 2, 0, none⟩ (.int .i64 (-4611686018427387898)) := ⟨_, rfl⟩
        replace HB := HB.out
        replace SZ := SZ.out
        replace Bge := Bge.out
        replace Bgf := Bgf.out
        replace X1 := X1.out
        replace X2 := X2.out
        replace X3 := X3.out
        replace X4 := X4.out
        replace Y1 := Y1.out
        replace Y2 := Y2.out
        replace Y3 := Y3.out
        replace Y4 := Y4.out
        rw [← hwy] at HB SZ Bge Bgf X1 X2 X3 X4 Y1 Y2 Y3 Y4
        replace HB := Aside0.mk HB
        replace SZ := Aside0.mk SZ
        replace Bge := Aside0.mk Bge
        replace Bgf := Aside0.mk Bgf
        replace X1 := Aside0.mk X1
        replace X2 := Aside0.mk X2
        replace X3 := Aside0.mk X3
        replace X4 := Aside0.mk X4
        replace Y1 := Aside0.mk Y1
        replace Y2 := Aside0.mk Y2
        replace Y3 := Aside0.mk Y3
        replace Y4 := Aside0.mk Y4
        rw [← hwy]
        clear hwy
        have ha := blk5 Bgf.out
        have hx := (blk_cell Y2.out 0).trans rfl
        have hy := blk_frozen Y2.out 0
        go_upto_region 38 with (fail)
        clear ha hx hy
        have n_HB := Aside0.mk (below_set (g := sC + 5 + 2) (j := 0) (v := .int .i64 4611686018427387899) HB.out (by have := LO.out; have := Gge.out; have := Ggf.out; omega))
        have n_SZ := Aside0.mk (show sC + 10 ≤ (World.setCell _ ⟨sC + 5 + 2, 0, none⟩ (.int .i64 4611686018427387899)).heap.size by rw [World.size_setCell]; exact SZ.out)
        have n_Bge := Aside0.mk (blk_far (p := ⟨sC + 5 + 2, 0, none⟩) Bge.out (show w1.heap.size ≠ sC + 5 + 2 by omega) (.int .i64 4611686018427387899))
        have n_Bgf := Aside0.mk (blk_far (p := ⟨sC + 5 + 2, 0, none⟩) Bgf.out (show w2.heap.size ≠ sC + 5 + 2 by omega) (.int .i64 4611686018427387899))
        have n_X1 := Aside0.mk (blk_far (p := ⟨sC + 5 + 2, 0, none⟩) X1.out (show sC + 1 ≠ sC + 5 + 2 by omega) (.int .i64 4611686018427387899))
        have n_X2 := Aside0.mk (blk_far (p := ⟨sC + 5 + 2, 0, none⟩) X2.out (show sC + 2 ≠ sC + 5 + 2 by omega) (.int .i64 4611686018427387899))
        have n_X3 := Aside0.mk (blk_far (p := ⟨sC + 5 + 2, 0, none⟩) X3.out (show sC + 3 ≠ sC + 5 + 2 by omega) (.int .i64 4611686018427387899))
        have n_X4 := Aside0.mk (blk_far (p := ⟨sC + 5 + 2, 0, none⟩) X4.out (show sC + 4 ≠ sC + 5 + 2 by omega) (.int .i64 4611686018427387899))
        have n_Y1 := Aside0.mk (blk_far (p := ⟨sC + 5 + 2, 0, none⟩) Y1.out (show sC + 5 + 1 ≠ sC + 5 + 2 by omega) (.int .i64 4611686018427387899))
        have n_Y2 := Aside0.mk (show (World.setCell _ ⟨sC + 5 + 2, 0, none⟩ (.int .i64 4611686018427387899)).heap[sC + 5 + 2]? = some (.cells #[.int .i64 4611686018427387899] 2 (0, 0)) from blk_put Y2.out 0 (.int .i64 4611686018427387899) rfl)
        have n_Y3 := Aside0.mk (blk_far (p := ⟨sC + 5 + 2, 0, none⟩) Y3.out (show sC + 5 + 3 ≠ sC + 5 + 2 by omega) (.int .i64 4611686018427387899))
        have n_Y4 := Aside0.mk (blk_far (p := ⟨sC + 5 + 2, 0, none⟩) Y4.out (show sC + 5 + 4 ≠ sC + 5 + 2 by omega) (.int .i64 4611686018427387899))
        clear HB SZ Bge Bgf X1 X2 X3 X4 Y1 Y2 Y3 Y4
        have HB := n_HB
        have SZ := n_SZ
        have Bge := n_Bge
        have Bgf := n_Bgf
        have X1 := n_X1
        have X2 := n_X2
        have X3 := n_X3
        have X4 := n_X4
        have Y1 := n_Y1
        have Y2 := n_Y2
        have Y3 := n_Y3
        have Y4 := n_Y4
        clear n_HB n_SZ n_Bge n_Bgf n_X1 n_X2 n_X3 n_X4 n_Y1 n_Y2 n_Y3 n_Y4
        obtain ⟨w37y, hwy⟩ : ∃ wy : World, wy = World.setCell w36y ⟨sC + 5 + 2, 0, none⟩ (.int .i64 4611686018427387899) := ⟨_, rfl⟩
        replace HB := HB.out
        replace SZ := SZ.out
        replace Bge := Bge.out
        replace Bgf := Bgf.out
        replace X1 := X1.out
        replace X2 := X2.out
        replace X3 := X3.out
        replace X4 := X4.out
        replace Y1 := Y1.out
        replace Y2 := Y2.out
        replace Y3 := Y3.out
        replace Y4 := Y4.out
        rw [← hwy] at HB SZ Bge Bgf X1 X2 X3 X4 Y1 Y2 Y3 Y4
        replace HB := Aside0.mk HB
        replace SZ := Aside0.mk SZ
        replace Bge := Aside0.mk Bge
        replace Bgf := Aside0.mk Bgf
        replace X1 := Aside0.mk X1
        replace X2 := Aside0.mk X2
        replace X3 := Aside0.mk X3
        replace X4 := Aside0.mk X4
        replace Y1 := Aside0.mk Y1
        replace Y2 := Aside0.mk Y2
        replace Y3 := Aside0.mk Y3
        replace Y4 := Aside0.mk Y4
        rw [← hwy]
        clear hwy
        have ha := blk5 Bge.out
        have hb5 := blk5 Bgf.out
        go_wp2_with (fail)
        clear ha hb5
        refine (at_true smallN (some ⟨sC + 1, 0, none⟩) 1 smallF 1 (some ⟨sC + 2, 0, none⟩) 1 [-4611686018427387898] (some ⟨sC + 4, 0, none⟩) 1 smallT smallN (some ⟨sC + 5 + 1, 0, none⟩) 1 smallF 1 (some ⟨sC + 5 + 2, 0, none⟩) 1 [4611686018427387899] (some ⟨sC + 5 + 4, 0, none⟩) 1 smallT _ ⟨tab_below htab.out (kB0 HB)⟩ ⟨C_str X1.out⟩ ZF ⟨C_int X2.out⟩ ⟨C_tree X4.out rfl (Nat.le_refl _) (C_leaf X3.out)⟩ SS ⟨C_str Y1.out⟩ ZF ⟨C_int Y2.out⟩ ⟨C_tree Y4.out rfl (Nat.le_refl _) (C_leaf Y3.out)⟩ SS 31 _ _ C6 N6).mono ?_
        rintro e w38 ⟨rfl, hb⟩
        have n_HB := Aside0.mk (below_step HB.out hb)
        have n_SZ := Aside0.mk (Nat.le_trans SZ.out hb.size)
        have n_Bge := Aside0.mk (blk_below Bge.out hb)
        have n_Bgf := Aside0.mk (blk_below Bgf.out hb)
        have n_X1 := Aside0.mk (blk_below X1.out hb)
        have n_X2 := Aside0.mk (blk_below X2.out hb)
        have n_X3 := Aside0.mk (blk_below X3.out hb)
        have n_X4 := Aside0.mk (blk_below X4.out hb)
        have n_Y1 := Aside0.mk (blk_below Y1.out hb)
        have n_Y2 := Aside0.mk (blk_below Y2.out hb)
        have n_Y3 := Aside0.mk (blk_below Y3.out hb)
        have n_Y4 := Aside0.mk (blk_below Y4.out hb)
        clear HB SZ Bge Bgf X1 X2 X3 X4 Y1 Y2 Y3 Y4
        have HB := n_HB
        have SZ := n_SZ
        have Bge := n_Bge
        have Bgf := n_Bgf
        have X1 := n_X1
        have X2 := n_X2
        have X3 := n_X3
        have X4 := n_X4
        have Y1 := n_Y1
        have Y2 := n_Y2
        have Y3 := n_Y3
        have Y4 := n_Y4
        clear n_HB n_SZ n_Bge n_Bgf n_X1 n_X2 n_X3 n_X4 n_Y1 n_Y2 n_Y3 n_Y4
        clear hb
        go_wp2
        go_ret
        exact ⟨by first | rfl | (simp; done), kB0 HB⟩
      · have cnd : decide (z < 65536) = true := decide_eq_true (by omega)
        have HLT := Aside0.mk (show n < 65536 by omega)
        have XN := Aside0.mk hzz
        clear hzz hnn hend
        have p0 : (0 < n) = True := eq_true (by have := hn.out; omega)
        have ha := blk5 (w := wr) Bge.out
        go_wp2
        refine start_ (n := 10) (S := fun w' => w'.cell? ⟨w1.heap.size, 4, none⟩ = some (.slice (some ⟨g, 0, none⟩) n cT) ∧ w'.cell? ⟨g, 0, none⟩ = some (.int .i64 0) ∧ w'.cell? ⟨g, 1, none⟩ = some (.slice A5 1 c5)) (ds := [7, 9]) #[false, false, false, false, false, false, false, false, false, false] (by kernel_rfl) rfl rfl ⟨((blk_cell (blk_drew Bge.out) 4).trans rfl), ec0, ec1⟩ (fun hHeld => ?_)
        refine pure_ (i := 0) (N := some 20) (v := ?_) (a' := ?_) #[true, false, false, false, false, false, false, false, false, false] rfl rfl (by kernel_rfl) (fun _ _ _ h => h) (Or.inl ⟨by rfl, ?_⟩) ?_ ?_
        rotate_left
        · intro w'
          go_simp
          with_reducible rfl
        rotate_left
        · simp only [Act.put, List.setIfInBounds_toArray, List.set_cons_zero, List.set_cons_succ, i64_w, i32_w]
          rfl
        refine pure_ (i := 2) (N := some 22) (v := ?_) (a' := ?_) #[true, false, true, false, false, false, false, false, false, false] rfl rfl (by kernel_rfl) (fun _ _ _ h => h) (Or.inl ⟨by rfl, ?_⟩) ?_ ?_
        rotate_left
        · intro w'
          go_simp
          with_reducible rfl
        rotate_left
        · simp only [Act.put, List.setIfInBounds_toArray, List.set_cons_zero, List.set_cons_succ, i64_w, i32_w]
          rfl
        refine take_ (i := 1) (N := some 21) (v := ?_) (a' := ?_) #[true, true, true, false, false, false, false, false, false, false] rfl rfl (by kernel_rfl) (fun _ _ _ h => h) (Or.inl ⟨by rfl, ?_⟩) hHeld ?_ ?_
        rotate_left
        · rintro w' ⟨s0, s1, s2⟩
          go_simp
          with_reducible rfl
        rotate_left
        · simp only [Act.put, List.setIfInBounds_toArray, List.set_cons_zero, List.set_cons_succ, i64_w, i32_w]
          rfl
        refine take_ (i := 3) (N := some 23) (v := ?_) (a' := ?_) #[true, true, true, true, false, false, false, false, false, false] rfl rfl (by kernel_rfl) (fun _ _ _ h => h) (Or.inl ⟨by rfl, ?_⟩) hHeld ?_ ?_
        rotate_left
        · rintro w' ⟨s0, s1, s2⟩
          go_simp
          with_reducible rfl
        rotate_left
        · simp only [Act.put, List.setIfInBounds_toArray, List.set_cons_zero, List.set_cons_succ, i64_w, i32_w]
          rfl
        refine pure_ (i := 4) (N := some 24) (v := ?_) (a' := ?_) #[true, true, true, true, true, false, false, false, false, false] rfl rfl (by kernel_rfl) (fun _ _ _ h => h) (Or.inl ⟨by rfl, ?_⟩) ?_ ?_
        rotate_left
        · intro w'
          go_simp
          with_reducible rfl
        rotate_left
        · simp only [Act.put, List.setIfInBounds_toArray, List.set_cons_zero, List.set_cons_succ, i64_w, i32_w]
          rfl
        refine take_ (i := 5) (N := some 25) (v := ?_) (a' := ?_) #[true, true, true, true, true, true, false, false, false, false] rfl rfl (by kernel_rfl) (fun _ _ _ h => h) (Or.inl ⟨by rfl, ?_⟩) hHeld ?_ ?_
        rotate_left
        · rintro w' ⟨s0, s1, s2⟩
          go_simp
          with_reducible rfl
        rotate_left
        · simp only [Act.put, List.setIfInBounds_toArray, List.set_cons_zero, List.set_cons_succ, i64_w, i32_w]
          rfl
        refine one_ (i := 6) (N := some 26) #[true, true, true, true, true, true, true, false, false, false] rfl rfl (by kernel_rfl) (by decide) (fun K hK => ?_)
        refine valueR_ (w1 := ?_) (v := ?_) (by rfl) rfl ?_ ?_
        rotate_left 2
        · go_simp
          constructor
          · rfl
          · rfl
        refine hK.out _ _ ⟨(cellB (below_alloc (below_drew (Below.refl _ _)) _) hHeld.1), (cellB (below_alloc (below_drew (Below.refl _ _)) _) hHeld.2.1), (cellB (below_alloc (below_drew (Below.refl _ _)) _) hHeld.2.2)⟩ (fun hHeld => ?_)
        clear hK K
        refine norm_ (a' := ?_) ?_ ?_
        rotate_left
        · show Act.put _ (some 26) _ = _
          simp only [Act.put, List.setIfInBounds_toArray, List.set_cons_zero, List.set_cons_succ, i64_w, i32_w]
          rfl
        refine lastR_ (i := 7) (N := some 27) #[true, true, true, true, true, true, true, true, false, false] rfl rfl (by kernel_rfl) (by decide) (fun K hK => ?_)
        refine Kd.N_append_step (W := wr.drew) k33 (w0 := w) w.heap.size (by rfl) (.tmp 21) (.tmp 26) 24 33 (.agg #[.int .i64 0, .slice none 0 0]) 32 (by rfl) Tryd.underlying24 infoTREE rfl (by decide) (by decide) (.slice (some ⟨g, 0, none⟩) n cT) (List.replicate n (⟨0, [leaf5]⟩ : S33)) (⟨0, [leaf5]⟩ : S33) [.int .i64 0, .slice A5 1 c5] (fun k => k ≠ w1.heap.size ∧ k ≠ w2.heap.size) (fun k => (k ≠ w1.heap.size ∧ k ≠ w2.heap.size) ∧ k ≠ g) (by rfl) (by rfl) (Kd.FK_step FKT.out (fun k _ _ => rfl)) (fun k hk => ⟨hk.1, fun he => hk.2 (by simpa [Value.ownBlock] using he)⟩) (fun k hk => by have h2 := SZ.out; have h3 : k ≥ wr.heap.size := hk; exact ⟨by omega, by omega⟩) (Kd.N_drew E4.out) (below_drew HB.out) (below_size (below_drew HB.out)) (by rw [List.length_replicate]; have := HLT.out; omega) ?_
        intro v7 w7 ho hb hg hat
        rw [← List.replicate_succ'] at ho
        obtain ⟨A7, c7, e7⟩ := Kd.N_slice ho
        rw [List.length_replicate] at e7
        subst e7
        have bge7 := blk_grown (blk_drew Bge.out) hg NEG.out
        have HB7 := Aside0.mk hb
        have Bgf7 := Aside0.mk (blk_grown (blk_drew Bgf.out) hg NEF.out)
        have Bge7 := Aside0.mk bge7
        have SZ7 := Aside0.mk (show w2.heap.size < w7.heap.size by have h1 := hg.size; have h2 := SZ.out; have h3 : wr.drew.heap.size = wr.heap.size := rfl; omega)
        have E4_7 := Aside0.mk ho
        have E17 := Aside0.mk (R_overN (Kd.R_drew E1.out) (Kd.N_drew E4.out) (by decide) hg)
        have E37 := Aside0.mk (R_overN (Kd.R_drew E3.out) (Kd.N_drew E4.out) (by decide) hg)
        have F17 := Aside0.mk (R_overN (Kd.R_drew F1.out) (Kd.N_drew E4.out) (by decide) hg)
        have F37 := Aside0.mk (R_overN (Kd.R_drew F3.out) (Kd.N_drew E4.out) (by decide) hg)
        have ha7 := blk5 (w := w7) bge7
        clear HB Bge Bgf SZ E1 E3 F1 F3 ha ho hb hg hat bge7 ec0 ec1 hHeld
        refine hK.out _ _ ?_
        clear hK K
        refine norm_ (a' := ?_) ?_ ?_
        rotate_left
        · show Act.put _ (some 27) _ = _
          simp only [Act.put, List.setIfInBounds_toArray, List.set_cons_zero, List.set_cons_succ, i64_w, i32_w]
          rfl
        refine pure_ (i := 8) (N := some 28) (v := ?_) (a' := ?_) #[true, true, true, true, true, true, true, true, true, false] rfl rfl (by kernel_rfl) (fun _ _ _ h => h) (Or.inl ⟨by rfl, ?_⟩) ?_ ?_
        rotate_left
        · intro w'
          go_simp
          with_reducible rfl
        rotate_left
        · simp only [Act.put, List.setIfInBounds_toArray, List.set_cons_zero, List.set_cons_succ, i64_w, i32_w]
          rfl
        refine lastR_ (i := 9) (N := none) #[true, true, true, true, true, true, true, true, true, true] rfl rfl (by kernel_rfl) (by decide) (fun K hK => ?_)
        refine skipR_ (w1 := ?_) (by rfl) rfl ?_ ?_
        rotate_left
        · go_simp
          rfl
        refine hK.out _ _ ?_
        clear hK K
        refine done_ (by kernel_rfl) ?_

        clear ha7
        have hb0_ : 0 ≤ z ∧ z < 65536 := by have := XN.out; have := HLT.out; omega
        obtain ⟨hb1_, hb2_⟩ := hb0_
        go_wp2
        go_roundg k1
        case measure => have := hk.out; omega
        case rel => exact ⟨_, n + 1, A7, c7, rfl, ⟨by have := XN.out; omega⟩, ⟨by have := HLT.out; omega⟩, ⟨by have := hk.out; have := HLT.out; omega⟩, ⟨blk_put Bge7.out 4 _ rfl⟩, ⟨blk_far (p := ⟨w1.heap.size, 4, none⟩) Bgf7.out NE.out.symm _⟩, ⟨below_set HB7.out Gge.out⟩, ⟨by rw [World.size_setCell]; exact SZ7.out⟩, ⟨Kd.R_move E17.out (fun k hk => Below.heap_setCell w7 ⟨w1.heap.size, 4, none⟩ _ k hk.1)⟩, ⟨Kd.R_move E37.out (fun k hk => Below.heap_setCell w7 ⟨w1.heap.size, 4, none⟩ _ k hk.1)⟩, ⟨Kd.N_far (p := ⟨w1.heap.size, 4, none⟩) E4_7.out (fun k hk => hk.1) _⟩, ⟨Kd.R_move F17.out (fun k hk => Below.heap_setCell w7 ⟨w1.heap.size, 4, none⟩ _ k hk.1)⟩, ⟨Kd.R_move F37.out (fun k hk => Below.heap_setCell w7 ⟨w1.heap.size, 4, none⟩ _ k hk.1)⟩⟩
end Go.Proofs.YtglpjgbgomppjaaDoor.FAll
