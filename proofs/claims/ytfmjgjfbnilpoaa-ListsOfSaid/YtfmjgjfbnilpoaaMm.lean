/-
 masks.Marks of a good tree of few leaves: the marks of its inner nodes, each ahead of those below it, left ones first.
-/
import Derived.Test.YtfmjgjfbnilpoaaZq
import Derived.Test.YtfmjgjfbnilpoaaLl
namespace Go.Proofs.Ytfmjgjfbnilpoaa.FAll
open Go.RowKit Go.Shelf YtfmjgjfbnilpoaaW.PrintWords YtfmjgjfbnilpoaaW.PrintLast YtfmjgjfbnilpoaaW.PrintMore BTree
attribute [local go_sem] fstore_walk
set_option linter.unusedVariables false
set_option linter.unusedSimpArgs false
theorem fnstore_walk {P : Program} {w : World} (a : Addr) (m : Mode) (f : Fn) (bs ls : Array Value) : (store a (.func f bs ls) m).run P w = stored P w a (.func f bs ls) m := run_store P w a _ m rfl
attribute [local go_sem] fnstore_walk
/-- The marks of a tree whose first leaf has this number. -/
def BT.marks : BT → Nat → List S58
 | .leaf _, _ => []
 | .node i l r, f => ⟨(i : Int), (f : Int), ((f + l.outer.length : Nat) : Int)⟩ :: (BT.marks l f ++ BT.marks r (f + l.outer.length))
theorem BT.marks_len : ∀ (T : BT) (f : Nat), (BT.marks T f).length = T.inner.length
 | .leaf _, _ => rfl
 | .node i l r, f => by simp [BT.marks, BT.inner, BT.marks_len l, BT.marks_len r]
/-- Other blocks than a list's cell and the marks' rows stay. -/
structure KeepM (bo : Nat) (W W' : World) : Prop where
 size : W.heap.size ≤ W'.heap.size
 same : ∀ (g : Nat) (cs : Array Value) (t : TypeId), t ≠ 58 → g ≠ bo → W.heap[g]? = some (.cells cs t (0, 0)) → W'.heap[g]? = some (.cells cs t (0, 0))
theorem KeepM.trans {bo : Nat} {A B C : World} (h : KeepM bo A B) (k : KeepM bo B C) : KeepM bo A C := ⟨Nat.le_trans h.size k.size, fun g cs t ht hg h1 => k.same g cs t ht hg (h.same g cs t ht hg h1)⟩
theorem KeepM.of_below {bo : Nat} {A B : World} (h : Below A.heap.size A B) : KeepM bo A B := ⟨h.size, fun _ _ _ _ _ h1 => blk_below h1 h⟩
theorem KeepM.grown {bo : Nat} {A B : World} {row : Option Nat} (h : A.grownBy B row) (hr : ∀ g, row = some g → ∃ cs, A.heap[g]? = some (.cells cs 58 (0, 0))) : KeepM bo A B :=
 ⟨h.size, fun g cs t ht hg h1 => (h.block g (blk_lt h1) (fun e => by
  obtain ⟨cs', h2⟩ := hr g e.symm
  rw [h1] at h2
  injection h2 with h2
  injection h2 with _ h2
  exact ht h2)).trans h1⟩
theorem KeepM.set {bo : Nat} (A : World) (v : Value) : KeepM bo A (A.setCell ⟨bo, 0, none⟩ v) := ⟨by simp [World.setCell], fun g cs t _ hg h1 => blk_far h1 hg v⟩
/-- The list as it is in the course of the walk. -/
structure InM (w0 : World) (bt bo bb : Nat) (t0 : Int) (A1 : Option Addr) (n c1 : Nat) (xs : List S58) (W : World) : Prop where
 out : ∃ v, W.heap[bo]? = some (.cells #[v] 48 (0, 0)) ∧ Kd.R k58 58 W w0.heap.size (fun _ => True) v xs
 tree : W.heap[bt]? = some (.cells #[.int .i64 t0, .slice A1 n c1] 53 (0, 0))
 self : W.heap[bb]? = some (.cells #[.func (.func 43) #[] #[.pointer (some ⟨bt, 0, none⟩), .pointer (some ⟨bo, 0, none⟩), .pointer (some ⟨bb, 0, none⟩)]] 93 (0, 0))
 below : Below w0.heap.size w0 W
theorem InM.step {w0 : World} {bt bo bb : Nat} {t0 : Int} {A1 : Option Addr} {n c1 : Nat} {xs : List S58} {W W' : World} (h : InM w0 bt bo bb t0 A1 n c1 xs W) (hb : Below W.heap.size W W') : InM w0 bt bo bb t0 A1 n c1 xs W' := by
 obtain ⟨v, h1, h2⟩ := h.out
 exact ⟨⟨v, blk_below h1 hb, Kd.R_below h2 hb⟩, blk_below h.tree hb, blk_below h.self hb, below_step h.below hb⟩
theorem tree_ne {w0 : World} {bt bo bb : Nat} {t0 : Int} {A1 : Option Addr} {n c1 : Nat} {xs : List S58} {W : World} (h : InM w0 bt bo bb t0 A1 n c1 xs W) : bt ≠ bo := by
 rintro rfl
 obtain ⟨v, h1, _⟩ := h.out
 have := h.tree
 rw [h1] at this
 injection this with this
 injection this with _ this
 exact absurd this (by decide)
theorem self_ne {w0 : World} {bt bo bb : Nat} {t0 : Int} {A1 : Option Addr} {n c1 : Nat} {xs : List S58} {W : World} (h : InM w0 bt bo bb t0 A1 n c1 xs W) : bb ≠ bo := by
 rintro rfl
 obtain ⟨v, h1, _⟩ := h.out
 have := h.self
 rw [h1] at this
 injection this with this
 injection this with _ this
 exact absurd this (by decide)
section
variable (w0 : World) (bt bo bb : Nat) (t0 : Int) (A1 : Option Addr) (c1 : Nat) (ns : List S71)
/-- What a call of the closure does. -/
abbrev Mark1 (T : BT) : Prop := ∀ (W : World) (xs : List S58) (f : Nat) (iz fz : Int), iz = (T.root : Int) → fz = (f : Int) → InM w0 bt bo bb t0 A1 ns.length c1 xs W → xs.length + T.inner.length ≤ 1759218604441 → f + T.outer.length ≤ 1759218604441 →
  Calls Try.prog 43 #[.int .i64 iz, .int .i64 fz, .pointer (some ⟨bt, 0, none⟩), .pointer (some ⟨bo, 0, none⟩), .pointer (some ⟨bb, 0, none⟩)] W fun e W' => e = .returned (.int .i64 ((f + T.outer.length : Nat) : Int)) ∧ InM w0 bt bo bb t0 A1 ns.length c1 (xs ++ BT.marks T f) W' ∧ KeepM bo W W'
set_option maxHeartbeats 4000000 in
set_option maxRecDepth 100000 in
theorem mark1_leaf (i : Nat) (hns : Aside0 (Kd.C k71 w0 A1 ns.length ns)) (hi : i < ns.length) (hk : (rd_T71 ns (i : Int)).f0 = 1) : Mark1 w0 bt bo bb t0 A1 c1 ns (.leaf i) := by
 intro W xs f iz fz e1 e2 H hL hF
 have p0' : 0 ≤ iz := by rw [e1]; exact Int.natCast_nonneg _
 have p1' : iz < (ns.length : Int) := by rw [e1]; show (i : Int) < _; omega
 obtain ⟨ad, A4, c4, rfl, e0, e1_, e2_, e3, e4, e5, e6, e7, l4, g4⟩ := at_T71 hns.out iz p0' p1'
 obtain ⟨y, hy⟩ : ∃ y, y = rd_T71 ns iz := ⟨_, rfl⟩
 have hk' : y.f0 = 1 := by rw [hy, e1]; exact hk
 rw [← hy] at e0 e1_ e2_ e3 e4 e5 e6 e7
 replace e0 := cB_ H.below e0
 replace e1_ := cB_ H.below e1_
 replace e2_ := cB_ H.below e2_
 replace e3 := cB_ H.below e3
 replace e4 := cB_ H.below e4
 replace e5 := cB_ H.below e5
 replace e6 := cB_ H.below e6
 replace e7 := cB_ H.below e7
 rw [hk'] at e0
 have ht := blk2 H.tree
 have p0 := eq_true p0'
 have p1 := eq_true p1'
 have wf : wrap64 (fz + 1) = ((f + 1 : Nat) : Int) := by simp only [BT.outer, List.length_cons, List.length_nil] at hF; unfold wrap64; omega
 have HH := aS_ H
 clear g4 l4 hy H hL hF e1 e2 hk hk' p0' p1' hi
 go_enter Try.func43, Try.ntmps43
 go_wp2
 go_ret
 refine ⟨congrArg (fun z => Ending.returned (.int .i64 z)) wf, ?_, ?_⟩
 ·simp only [BT.marks, List.append_nil]
  exact HH.out.step (below_alloc (Below.refl _ _) _)
 ·exact KeepM.of_below (below_alloc (Below.refl _ _) _)

theorem set_mid {α : Type} (xs L : List α) (a b : α) : (xs ++ [a] ++ L).set xs.length b = xs ++ (b :: L) := by
 rw [List.append_assoc, List.set_append_right _ _ (Nat.le_refl _), Nat.sub_self, List.cons_append, List.nil_append, List.set_cons_zero]
set_option maxHeartbeats 8000000 in
set_option maxRecDepth 100000 in
theorem mark1_node (i : Nat) (l r : BT) (ihl : Mark1 w0 bt bo bb t0 A1 c1 ns l) (ihr : Mark1 w0 bt bo bb t0 A1 c1 ns r) (hns : Aside0 (Kd.C k71 w0 A1 ns.length ns)) (hi : i < ns.length) (hk : (rd_T71 ns (i : Int)).f0 ≠ 1) (h6 : (rd_T71 ns (i : Int)).f6 = (l.root : Int)) (h7 : (rd_T71 ns (i : Int)).f7 = (r.root : Int)) (hbo : Aside0 (w0.heap.size ≤ bo)) : Mark1 w0 bt bo bb t0 A1 c1 ns (.node i l r) := by
 intro W xs f iz fz e1 e2 H hL hF
 have p0' : 0 ≤ iz := by rw [e1]; exact Int.natCast_nonneg _
 have p1' : iz < (ns.length : Int) := by rw [e1]; show (i : Int) < _; omega
 obtain ⟨ad, A4, c4, rfl, e0, e1_, e2_, e3, e4, e5, e6, e7, l4, g4⟩ := at_T71 hns.out iz p0' p1'
 obtain ⟨y, hy⟩ : ∃ y, y = rd_T71 ns iz := ⟨_, rfl⟩
 have e1' : rd_T71 ns iz = rd_T71 ns (i : Int) := by rw [e1]; rfl
 have hk1 : (y.f0 == 1) = false := by rw [hy, e1', beq_eq_false_iff_ne]; exact hk
 have hk2 : (y.f0 = 1) = False := by rw [hy, e1']; exact eq_false hk
 have Y6 := aS_ (show y.f6 = (l.root : Int) by rw [hy, e1']; exact h6)
 have Y7 := aS_ (show y.f7 = (r.root : Int) by rw [hy, e1']; exact h7)
 rw [← hy] at e0 e1_ e2_ e3 e4 e5 e6 e7
 replace e0 := cB_ H.below e0
 replace e1_ := cB_ H.below e1_
 replace e2_ := cB_ H.below e2_
 replace e3 := cB_ H.below e3
 replace e4 := cB_ H.below e4
 replace e5 := cB_ H.below e5
 replace e6 := cB_ H.below e6
 replace e7 := cB_ H.below e7
 have ht := blk2 H.tree
 have p0 := eq_true p0'
 have p1 := eq_true p1'
 obtain ⟨v, hbo1, hR1⟩ := H.out
 obtain ⟨AO, cO, rfl, _, _⟩ := Kd.R_reads hR1
 have ho1 := fun o => blk1 (w := W.alloc o) (blk_alloc hbo1 o)
 have BO := aS_ hbo1
 have RO := aS_ hR1
 have IZ := aS_ (show iz = (i : Int) from e1)
 have FZ := aS_ e2
 simp only [BT.inner, BT.outer, List.length_cons, List.length_append] at hL hF
 have SL := aS_ hL
 have SF := aS_ hF
 obtain ⟨mid, hmid⟩ : ∃ mid : Int, mid = ((f + l.outer.length : Nat) : Int) := ⟨_, rfl⟩
 have MI := aS_ hmid
 have HH := aS_ H
 clear hmid g4 l4 hy H hL hF e1 e2 hk p0' p1' hi e1' hbo1 hR1 h6 h7
 go_enter Try.func43, Try.ntmps43
 go_wp2_with (first | ((with_reducible refine gate_builtin (b := .append) (xs := #[.tmp 23, .tmp 27]) rfl ?_); at_builtin; refine Kd.R_append k58 (w0 := w0) w0.heap.size rfl (.tmp 23) (.tmp 27) 48 58 (.agg #[(.int .i64 0), (.int .i64 0), (.int .i64 0)]) 24 rfl Try.underlying48 info58 rfl (by decide) (by omega) (.slice AO xs.length cO) xs (⟨iz, fz, 0⟩ : S58) [.int .i64 iz, .int .i64 fz, .int .i64 0] (fun _ => True) (fun _ => False) rfl (by show Value.slice (some ⟨W.heap.size + 1, 0, none⟩) 1 1 = _; rw [World.size_alloc]) (k58_mkM _ _ _ (⟨iz, fz, 0⟩ : S58)) (fun _ hk => hk.elim) (fun _ _ => trivial) (Kd.R_alloc RO.out _) (below_alloc HH.out.below _) (below_size (below_alloc HH.out.below _)) (by have := SL.out; omega) ?_; intro v2 w2 R2 hb2 hg2 hat2; obtain ⟨g2, cap2, rfl, hg2b, _, _⟩ := Kd.R_form R2 (by simp); obtain ⟨n2, hn2⟩ : ∃ n2, n2 = (xs ++ [(⟨iz, fz, 0⟩ : S58)]).length := ⟨_, rfl⟩; rw [← hn2] at R2 ⊢; have XB := blk_new W (.cells #[.int .u8 y.f0, .int .i64 y.f1, .int .i64 y.f2, .float .f64 y.f3, .slice A4 y.f4.length c4, .int .u8 y.f5, .int .i64 y.f6, .int .i64 y.f7] 71); have ROa := Kd.R_alloc RO.out (.cells #[.int .u8 y.f0, .int .i64 y.f1, .int .i64 y.f2, .float .f64 y.f3, .slice A4 y.f4.length c4, .int .u8 y.f5, .int .i64 y.f6, .int .i64 y.f7] 71); have BOa := blk_alloc BO.out (.cells #[.int .u8 y.f0, .int .i64 y.f1, .int .i64 y.f2, .float .f64 y.f3, .slice A4 y.f4.length c4, .int .u8 y.f5, .int .i64 y.f6, .int .i64 y.f7] 71); have KM2 : KeepM bo W w2 := (KeepM.of_below (below_alloc (Below.refl _ _) _)).trans (KeepM.grown hg2 (Kd.R_typed ROa)); have BO2 := blk_grown BOa hg2 (Kd.R_ne ROa BOa (by decide)); have X2 := blk_grown XB hg2 (Kd.R_ne ROa XB (by decide)); have T2 := KM2.same bt _ _ (by decide) (tree_ne HH.out) HH.out.tree; have S2 := KM2.same bb _ _ (by decide) (self_ne HH.out) HH.out.self; have NX : W.heap.size ≠ bo := Nat.ne_of_gt (blk_lt BO.out); have IM3 : InM w0 bt bo bb t0 (some ad) ns.length c1 (xs ++ [(⟨iz, fz, 0⟩ : S58)]) (w2.setCell ⟨bo, 0, none⟩ (.slice (some ⟨g2, 0, none⟩) n2 cap2)) := ⟨⟨_, blk_put BO2 0 _ rfl, Kd.R_mono (Kd.R_far (p := ⟨bo, 0, none⟩) (Kd.R_types R2 BO2 (by decide)) (fun _ hk => hk.2) _) (fun _ _ => trivial)⟩, blk_far T2 (tree_ne HH.out) _, blk_far S2 (self_ne HH.out) _, below_set hb2 hbo.out⟩; have KM3 : KeepM bo W (w2.setCell ⟨bo, 0, none⟩ (.slice (some ⟨g2, 0, none⟩) n2 cap2)) := KM2.trans (KeepM.set _ _); have ho2 := blk1 (w := w2) BO2; have hs3 := blk1 IM3.self; have hx3 := blk8 (blk_far X2 (p := ⟨bo, 0, none⟩) NX (.slice (some ⟨g2, 0, none⟩) n2 cap2)); have IM := aS_ IM3; have KM := aS_ KM3; have BX := aS_ (blk_far X2 (p := ⟨bo, 0, none⟩) NX (.slice (some ⟨g2, 0, none⟩) n2 cap2)); clear R2 hb2 hg2 hat2 hn2 XB ROa BOa KM2 BO2 X2 T2 S2 NX IM3 KM3) | ((with_reducible refine gate_store (p := 38) rfl ?_); obtain ⟨cc, hcl, hM, hcc, _⟩ := Kd.R_elem RR.out z58 (xs.length : Int) (of_eq_true q0) (of_eq_true q1); rw [EE.out] at hM; obtain rfl := k58_openM hM; refine Kd.R_store k58 (w0 := w0) w0.heap.size rfl rfl 3 (.tmp 38) (.tmp 36) rfl 58 (xs.length : Int) 2 L4 (⟨iz, fz, mid⟩ : S58) (.int .i64 mid) [.int .i64 mid] _ (fun _ => True) (fun k => k ≠ g4) (by rfl) (by show _ = (xs.length : Int).toNat * 3 + 2; omega) (by rfl) rfl (by kernel_rfl) (by intro q hq; simp only [List.mem_cons, List.not_mem_nil, or_false] at hq; rcases hq with rfl; rfl) RR.out (of_eq_true q0) (of_eq_true q1) hcl hcc (by show 2 + 1 ≤ 3; omega) (k58_mkM _ _ _ (⟨iz, fz, mid⟩ : S58)) (fun k hk => ⟨trivial, hk⟩) IM.out.below ?_; intro w5 hro hb5 hg5; rw [Int.toNat_natCast, L4E.out, set_mid, ← L4E.out] at hro; have KM5 : KeepM bo W w5 := KM.out.trans (KeepM.grown hg5 (fun k hk => Kd.R_typed RR.out k hk)); have BO5 := blk_grown B4.out hg5 (Kd.R_ne RR.out B4.out (by decide)); have X5 := blk_grown BX.out hg5 (Kd.R_ne RR.out BX.out (by decide)); have IM5 : InM w0 bt bo bb t0 (some ad) ns.length c1 (xs ++ ((⟨iz, fz, mid⟩ : S58) :: BT.marks l f)) w5 := ⟨⟨_, BO5, hro⟩, blk_grown IM.out.tree hg5 (Kd.R_ne RR.out IM.out.tree (by decide)), blk_grown IM.out.self hg5 (Kd.R_ne RR.out IM.out.self (by decide)), hb5⟩; have hs5 := blk1 IM5.self; have hx5 := blk8 X5; clear IM KM BX RR B4; have IM := aS_ IM5; have KM := aS_ KM5; clear hro hb5 hg5 KM5 BO5 X5 IM5) | ((with_reducible refine (ihl _ (xs ++ [(⟨iz, fz, 0⟩ : S58)]) f y.f6 fz Y6.out FZ.out IM.out (by rw [List.length_append, List.length_singleton]; have := SL.out; omega) (by have := SF.out; omega)).mono ?_); rintro e W4 ⟨he_, IM4, KM4⟩; rw [← MI.out] at he_; subst he_; obtain ⟨L4, hL4⟩ : ∃ L4, L4 = xs ++ [(⟨iz, fz, 0⟩ : S58)] ++ BT.marks l f := ⟨_, rfl⟩; rw [← hL4] at IM4; obtain ⟨v4, BO4, R4⟩ := IM4.out; have hp4 : xs.length < L4.length := (by rw [hL4]; simp); obtain ⟨g4, cap4, rfl, hg4b, _, _⟩ := Kd.R_form R4 (by omega); have ho4 := blk1 BO4; have q0 : ((0 : Int) ≤ (xs.length : Int)) = True := eq_true (Int.natCast_nonneg _); have q1 : ((xs.length : Int) < (L4.length : Int)) = True := eq_true (by omega); have EE := aS_ (show L4.getD (xs.length : Int).toNat z58 = (⟨iz, fz, 0⟩ : S58) by rw [hL4]; simp); have L4E := aS_ hL4; have B4 := aS_ BO4; have RR := aS_ R4; have mBX := aS_ (KM4.same _ _ _ (by decide) (Nat.ne_of_gt (blk_lt BO.out)) BX.out); have mKM := aS_ (KM.out.trans KM4); clear IM KM BX; have IM := aS_ IM4; have KM := mKM; have BX := mBX; clear mKM mBX IM4 KM4 BO4 R4 hL4 hp4) | ((with_reducible refine (ihr _ (xs ++ ((⟨iz, fz, mid⟩ : S58) :: BT.marks l f)) (f + l.outer.length) y.f7 mid Y7.out MI.out IM.out (by rw [List.length_append, List.length_cons, BT.marks_len]; have := SL.out; omega) (by have := SF.out; omega)).mono ?_); rintro e W6 ⟨rfl, IM6, KM6⟩; have mKM := aS_ (KM.out.trans KM6); clear IM KM; have KM := mKM; have IM := aS_ IM6; clear mKM IM6 KM6))
 go_ret
 refine ⟨congrArg (fun z : Nat => Ending.returned (.int .i64 (z : Int))) ?_, ?_, KM.out⟩
 ·simp only [BT.outer, List.length_append]; omega
 ·have h_ := IM.out
  rw [List.append_assoc, List.cons_append] at h_
  rw [IZ.out, FZ.out, MI.out] at h_
  exact h_
/-- A call of the closure, at any tree that hangs there. -/
theorem mark1_all (ok : TreeFine ns) (hns : Aside0 (Kd.C k71 w0 A1 ns.length ns)) (hbo : Aside0 (w0.heap.size ≤ bo)) : ∀ T : BT, Is ns.length (innN ns) (klN ns) (krN ns) T → Mark1 w0 bt bo bb t0 A1 c1 ns T
 | .leaf i, h => mark1_leaf w0 bt bo bb t0 A1 c1 ns i hns h.1 (by
   rcases right_kids (ok.fit i h.1) with h1 | ⟨h1, _⟩
   ·exact h1
   ·have h2 : innN ns i = true := by unfold innN innerB; rcases h1 with e | e <;> rw [e] <;> rfl
    rw [h.2] at h2
    cases h2)
 | .node i l r, ⟨hi, hin, hl, hr, h1, h2⟩ => by
  obtain ⟨k6, _, k7, _, k0⟩ := kids_of ok hi hin
  exact mark1_node w0 bt bo bb t0 A1 c1 ns i l r (mark1_all ok hns hbo l h1) (mark1_all ok hns hbo r h2) hns hi k0 (by rw [hl]; unfold klN; omega) (by rw [hr]; unfold krN; omega) hbo
end
set_option maxHeartbeats 4000000 in
set_option maxRecDepth 100000 in
theorem masks_Marks.calls (w : World) (t0 : Int) (A1 : Option Addr) (c1 : Nat) (ns : List S71) (T : BT) (k : Nat) (ok : TreeFine ns) (hns : Aside0 (Kd.C k71 w A1 ns.length ns)) (hc1 : Aside0 (ns.length ≤ c1)) (KS : Aside0 (trees_Shape.f k t0 ns = some (0, 0))) (hT : Aside0 (TreeIs ns T)) (hlen : Aside0 (ns.length ≤ 1759218604441)) (hfew : (leavesL ns T).length ≤ 4096) :
  Calls Try.prog 23 #[.agg #[.int .i64 t0, .slice A1 ns.length c1]] w fun e w' => ∃ v, e = .returned (.tuple #[v, .int .i64 0]) ∧ Kd.R k58 58 w' w.heap.size (fun _ => True) v (BT.marks T 0) ∧ Below w.heap.size w w' := by
 have NI := aS_ (show T.inner.length ≤ ns.length by rw [pre_inner (n := ns.length) (inn := innN ns) (kl := klN ns) (kr := krN ns) T hT.out.is]; exact Nat.le_trans (List.length_filter_le _ _) hT.out.few)
 have NO := aS_ (show T.outer.length ≤ ns.length by rw [pre_outer (n := ns.length) (inn := innN ns) (kl := klN ns) (kr := krN ns) T hT.out.is]; exact Nat.le_trans (List.length_filter_le _ _) hT.out.few)
 go_enter Try.func23, Try.ntmps23
 go_wp2_with (first | (go_at_call 42; refine (masks_leaves t0 A1 c1 ns k _ T ⟨Kd.C_below hns.out (below_alloc (Below.refl w.heap.size w) _)⟩ hc1 KS hT ⟨by have := hlen.out; omega⟩ hfew).mono ?_; rintro e w5 ⟨rfl, hb⟩; have HB := aS_ (below_step (below_alloc (Below.refl w.heap.size w) _) hb); have Bt := aS_ (blk_below (blk_new w (.cells #[.int .i64 t0, .slice A1 ns.length c1] 53)) hb); clear hb) | ((with_reducible refine (mark1_all w w.heap.size w5.heap.size (w5.heap.size + 1) t0 A1 c1 ns ok hns ⟨below_size HB.out⟩ T hT.out.is _ [] 0 0 0 (by rw [hT.out.root]; simp) (by simp) ⟨⟨_, blk_alloc (blk_new w5 _) _, Kd.R_nil _ _ _ _ _⟩, blk_alloc (blk_alloc Bt.out _) _, (by have h_ := blk_new (w5.alloc (.cells #[.slice none 0 0] 48)) (.cells #[.func (.func 43) #[] #[.pointer (some ⟨w.heap.size, 0, none⟩), .pointer (some ⟨w5.heap.size, 0, none⟩), .pointer (some ⟨w5.heap.size + 1, 0, none⟩)]] 93); rw [World.size_alloc] at h_; exact h_), below_alloc (below_alloc HB.out _) _⟩ (by have := NI.out; have := hlen.out; simp only [List.length_nil]; omega) (by have := NO.out; have := hlen.out; omega)).mono ?_); rintro e W8 ⟨rfl, IM, _⟩; obtain ⟨v, BO8, R8⟩ := IM.out; have ho8 := blk1 BO8; have RR := aS_ R8; have HB8 := aS_ IM.below; clear IM R8))
 go_ret2
 exact ⟨v, rfl, RR.out, HB8.out⟩
end Go.Proofs.Ytfmjgjfbnilpoaa.FAll
