/-
 trees.those (Leaves, Inner): the leaves, or the other nodes, from left to right.
-/
import Derived.Test.YtfmjgjfbnilpoaaZq
import Derived.Test.YtfmjgjfbnilpoaaAl
import Derived.Sort.CutIn
namespace Go.Proofs.Ytfmjgjfbnilpoaa.FAll
open Go.RowKit Go.Shelf YtfmjgjfbnilpoaaW.PrintWords YtfmjgjfbnilpoaaW.PrintLast YtfmjgjfbnilpoaaW.PrintMore BTree
attribute [local go_sem] fstore_walk Oper.semAt_some
set_option linter.unusedVariables false
set_option linter.unusedSimpArgs false
theorem infoINT : (Try.prog.info? 3).map (fun i => (i.zero, i.size, i.bytes)) = some (some (.int .i64 0), 1, 8) := by kernel_rfl
def encN (i : Nat) : Value := .int .i64 (i : Int)
/-- What has been taken of the nodes that have come. -/
def took (ns : List S71) (b : Bool) (pre : List (Nat × Nat)) : List Nat := (pre.map Prod.fst).filter (fun i => innN ns i == b)
theorem took_snoc (ns : List S71) (b : Bool) (pre : List (Nat × Nat)) (x : Nat × Nat) : took ns b (pre ++ [x]) = if innN ns x.1 == b then took ns b pre ++ [x.1] else took ns b pre := by
 unfold took
 rw [List.map_append, List.filter_append]
 cases h : innN ns x.1 == b <;> simp [h]
/-- Between two rounds. -/
def InTh (w : World) (Bt Bi Bo : Nat) (TC : Array Value) (ns : List S71) (b : Bool) (pre : List (Nat × Nat)) (W : World) : Prop :=
 (∃ v, Boxed W Bo 54 v ∧ W.ownsRow w.heap.size 3 1 v (took ns b pre).length ((took ns b pre).map encN)) ∧ W.heap[Bt]? = some (.cells TC 53 (0, 0)) ∧ W.heap[Bi]? = some (.cells #[.bool b] 4 (0, 0)) ∧ Below w.heap.size w W
section
variable {w : World} {Bt Bi Bo : Nat} {TC : Array Value} {ns : List S71} {b : Bool}
theorem InTh.keep {pre : List (Nat × Nat)} {W W' : World} (h : InTh w Bt Bi Bo TC ns b pre W) (hb : Below w.heap.size W W') (hk : ∀ (k : Nat) (cells : Array Value) (t : TypeId), t ≠ 134 → W.heap[k]? = some (.cells cells t (0, 0)) → W'.heap[k]? = some (.cells cells t (0, 0))) : InTh w Bt Bi Bo TC ns b pre W' := by
 obtain ⟨⟨v, h1, h2⟩, h3, h4, h5⟩ := h
 exact ⟨⟨v, hk _ _ _ (by decide) h1, own_move h2 (fun k cells _ hc => hk k cells _ (by decide) hc)⟩, hk _ _ _ (by decide) h3, hk _ _ _ (by decide) h4, h5.trans hb⟩
theorem InTh.from {B : Nat} (hB : w.heap.size ≤ B) : OwnFrom B (InTh w Bt Bi Bo TC ns b) := by
 intro s W W' row h hg hr
 refine h.keep ((Below.refl _ W).grown hg (by have := h.2.2.2.size; exact this) (fun k e => Nat.le_trans hB (hr k e).1)) (fun k cells t _ hc => (hg.block k (Array.getElem?_eq_some_iff.1 hc).1 (fun e => ?_)).trans hc)
 obtain ⟨_, o, ho, hn⟩ := hr k e.symm
 rw [hc] at ho
 cases ho
 cases hn
theorem InTh.step {B : Nat} (hB : w.heap.size ≤ B) : ∀ s A A', InTh w Bt Bi Bo TC ns b s A → StepT 134 B A A' → InTh w Bt Bi Bo TC ns b s A' := fun s A A' h hs =>
 h.keep (hs.below.mono hB) (fun k cells t ht hc => (hs.keep k (Array.getElem?_eq_some_iff.1 hc).1 (fun c e => by
  rw [hc] at e
  injection e with e
  injection e with _ e
  exact ht e)).trans hc)
end
set_option maxHeartbeats 4000000 in
set_option maxRecDepth 100000 in
theorem those_ok (w : World) (t0 : Int) (A1 : Option Addr) (c1 : Nat) (ns : List S71) (b : Bool) (T : BT) (k : Nat) (hns : Aside0 (Kd.C k71 w A1 ns.length ns)) (hc1 : Aside0 (ns.length ≤ c1)) (KS : Aside0 (trees_Shape.f k t0 ns = some (0, 0))) (hT : Aside0 (TreeIs ns T)) (hlen : Aside0 (ns.length ≤ 1759218604441)) :
  Calls Try.prog 60 #[.agg #[.int .i64 t0, .slice A1 ns.length c1], .bool b] w fun e w' => ∃ v, e = .returned (.tuple #[v, .int .i64 0]) ∧ w'.ownsRow w.heap.size 3 1 v (took ns b (T.preD 0)).length ((took ns b (T.preD 0)).map encN) ∧ Below w.heap.size w w' := by
 refine (callsIn_wide (n := 10)).1 ?_
 refine callsIn_of_wp_marks Try.func60 rfl trivial ?_ rfl
 simp only [Try.ntmps60, List.size_toArray, List.length_cons, List.length_nil, Nat.reduceAdd, Nat.reduceSub, Array.replicate_succ, Array.replicate_zero, List.push_toArray, List.append_toArray, List.nil_append, List.cons_append]
 have LN := hlen.out
 obtain ⟨i0, hi, hz0, hz1, hz2⟩ := info_parts infoINT
 have HI := aS_ hi
 have HZ0 := aS_ hz0
 have HZ1 := aS_ hz1
 have HZ2 := aS_ hz2
 clear hi hz0 hz1 hz2
 gi_wp2_with (first | (refine ⟨trivial, ?_⟩; gi_at_call 67; refine (callsIn_wide.2 (trees_Shape.calls k t0 A1 c1 ns 0 0 _ (Kd.C_below hns.out (below_alloc (below_alloc (Below.refl w.heap.size w) _) _)) hc1.out KS.out)).mono ?_; rintro e w5 ⟨rfl, hb⟩; have HB := aS_ (below_step (below_alloc (below_alloc (Below.refl w.heap.size w) _) _) hb); have Bt5 := aS_ (blk_below (blk_alloc (blk_new w (.cells #[.int .i64 t0, .slice A1 ns.length c1] 53)) (.cells #[.bool b] 4)) hb); have Bi5 := aS_ (blk_below (blk_new (w.alloc (.cells #[.int .i64 t0, .slice A1 ns.length c1] 53)) (.cells #[.bool b] 4)) hb); have HZ5 := aS_ hb.size; have ht5 := fun o => blk2 (w := w5.alloc o) (blk_alloc Bt5.out o); clear hb) | (refine ⟨trivial, ?_⟩; gi_at_call 68; refine (callsIn_wide.2 (all_any _ _ _ _ _)).mono ?_; rintro e w6 ⟨rfl, rfl⟩))
 have Bi6 := Bi5.out
 rw [World.size_alloc] at Bi6
 have SZ := HZ5.out
 simp only [World.size_alloc] at SZ
 obtain ⟨W0, hW0⟩ : ∃ W0, W0 = (w5.alloc (.cells #[.slice none 0 0] 54)).alloc (.cells #[.int .i64 t0, .slice A1 ns.length c1] 53) := ⟨_, rfl⟩
 have hb0 : Below w.heap.size w W0 := by rw [hW0]; exact below_alloc (below_alloc HB.out _) _
 have hz0 : W0.heap.size = w5.heap.size + 2 := by rw [hW0]; simp only [World.size_alloc]
 have hN0 : W0.heap[w5.heap.size + 1]? = some (.cells #[.int .i64 t0, .slice A1 ns.length c1] 53 (0, 0)) := by
  have h := blk_new (w5.alloc (.cells #[.slice none 0 0] 54)) (.cells #[.int .i64 t0, .slice A1 ns.length c1] 53)
  rw [World.size_alloc] at h
  rw [hW0]
  exact h
 have hI0 : InTh w w.heap.size (w.heap.size + 1) w5.heap.size #[.int .i64 t0, .slice A1 ns.length c1] ns b [] W0 := by
  rw [hW0]
  refine ⟨⟨.slice none 0 0, (Boxed.new w5 _ _).alloc _, World.ownsRow_nil _ _ _ _⟩, blk_alloc (blk_alloc Bt5.out _) _, blk_alloc (blk_alloc Bi6 _) _, below_alloc (below_alloc HB.out _) _⟩
 rw [← hW0]
 have hbW := aS_ hb0
 have hNW := aS_ hN0
 have hzW := aS_ hz0
 have hSZ := aS_ SZ
 clear hW0 hz0 hb0 hN0 HB Bt5 Bi5 Bi6 HZ5 ht5 SZ
 refine range_T (n0 := w.heap.size) (st := 134) (sp := sp2) rfl (by decide) (gf := 76) (lb := #[.pointer (some ⟨w5.heap.size + 1, 0, none⟩)]) rfl trivial (enters_of Try.func76 (by kernel_rfl) rfl)
  (all1_seq w W0 (10 - 1) (by decide) t0 A1 c1 ns T (w5.heap.size + 1) hns hT hlen hbW hNW) (Below.refl _ _) hbW.out.size (fun _ => rfl)
  (InTh w w.heap.size (w.heap.size + 1) w5.heap.size #[.int .i64 t0, .slice A1 ns.length c1] ns b) (InTh.from hbW.out.size) (InTh.step hbW.out.size) hI0 ?a1 ?assign ?body ?done
 case assign =>
  intro l x W K hK
  gi_wp2
  exact hK
 case body =>
  rintro l pre ⟨i, d⟩ rest W hx hi hsz
  obtain ⟨⟨v, hv, hrow⟩, ht, hbi, hB⟩ := hi
  have hit : i < ns.length := by
   refine hT.out.is.lt T i ?_
   rw [← T.preD_fst 0, ← hx]
   simp
  obtain ⟨ad, A4, c4, eA1, e0, e1, e2, e3, e4, e5, e6, e7, l4, g4⟩ := at_T71 hns.out (i : Int) (Int.natCast_nonneg _) (by omega)
  subst eA1
  have hinn : innN ns i = innerB (rd_T71 ns (i : Int)) := rfl
  obtain ⟨y, hyy⟩ : ∃ y, y = rd_T71 ns (i : Int) := ⟨_, rfl⟩
  rw [← hyy] at e0 e1 e2 e3 e4 e5 e6 e7 l4 g4 hinn
  rw [Int.toNat_natCast] at e0 e1 e2 e3 e4 e5 e6 e7
  replace e0 := cB_ hB e0
  replace e1 := cB_ hB e1
  replace e2 := cB_ hB e2
  replace e3 := cB_ hB e3
  replace e4 := cB_ hB e4
  replace e5 := cB_ hB e5
  replace e6 := cB_ hB e6
  replace e7 := cB_ hB e7
  have G4 := aS_ g4
  have L4 := aS_ l4
  have HIN := aS_ hinn
  have HBW := aS_ hB
  have Ht := aS_ ht
  have Hbi := aS_ hbi
  have Hv := aS_ hv
  have HRW := aS_ hrow
  have HX := aS_ hx
  have HSZ := aS_ hsz
  have hmix : Try.prog.follows .mixedOrders = true := by kernel_rfl
  have htc := blk2 (w := W) ht
  have hbc := ((blk_cell hbi 0).trans rfl : W.cell? ⟨w.heap.size + 1, 0, none⟩ = some (.bool b))
  have hr1 : (0 : Int) ≤ (i : Int) := Int.natCast_nonneg _
  have hr2 : (i : Int) < (ns.length : Int) := by omega
  clear g4 l4 hyy hinn hB ht hbi hv hrow hx hsz hit
  gi_wp2
  gi_cut [29] from 22 (fun s29 wc => s29 = .bool (innerB y == b) ∧ Aside0 (Below W.heap.size W wc))
  case first =>
   gi_region_with_o ((refine ⟨trivial, ?_⟩; gi_at_call 69; refine (CallsIn.inRound l (callsIn_wide.2 (trees_inner.calls y.f0 y.f1 y.f2 y.f3 A4 c4 y.f4 y.f5 y.f6 y.f7 _ _ (Kd.C_below G4.out (below_drew HBW.out)) L4.out (inner_f y)))).mono ?_; rintro e w6 ⟨rfl, hb⟩; have hb6 := aS_ ((below_drew (Below.refl W.heap.size W)).trans hb : Below W.heap.size W w6); have hbc6 := ((blk_cell (blk_below Hbi.out hb6.out) 0).trans rfl : w6.cell? ⟨w.heap.size + 1, 0, none⟩ = some (.bool b)); clear hb))
   all_goals (gi_wp2; gi_meet; exact ⟨rfl, hb6⟩)
  case rest =>
   obtain ⟨rfl, hb6⟩ := hcut
   have Hv6 := aS_ (blk_below Hv.out hb6.out : Boxed wc w5.heap.size 54 v)
   have HR6 := aS_ (own_move HRW.out (fun k cells _ hk => blk_below hk hb6.out))
   have hv6 : Boxed wc w5.heap.size 54 v := Hv6.out
   have hc6 := hv6.cell
   have hf6 := hv6.frozen
   clear hv6
   have hlk : (took ns b pre).length + 1 ≤ 1759218604441 := by
    have h1 := congrArg List.length HX.out
    rw [BT.preD_len, List.length_append, List.length_cons] at h1
    have h2 : (took ns b pre).length ≤ pre.length := by
     unfold took
     refine Nat.le_trans (List.length_filter_le _ _) ?_
     rw [List.length_map]
     exact Nat.le_refl _
    have h3 := hT.out.few
    omega
   gi_wp2_with (gi_at_builtin; refine wpListIn_append_own _ rfl _ _ 54 rfl w.heap.size 3 i0 (.int .i64 0) 1 8 Try.underlying54 HI.out HZ0.out HZ1.out HZ2.out rfl (by decide) v (took ns b pre).length ((took ns b pre).map encN) rfl (own_move HR6.out (fun k cells _ hk => blk_alloc hk _)) ⟨wc.heap.size, 0, none⟩ 1 1 [.int .i64 (i : Int)] rfl rfl cells_alloc (by simp [Value.oneCell']) (by unfold maxLen; omega) (by omega) (by rw [World.size_alloc]; exact Nat.le_succ_of_le (Nat.le_trans HBW.out.size hb6.out.size)) ?_; intro v7 w7 hown7 hg7 _; obtain ⟨g7, cap7, rfl⟩ := ownsRow_succ hown7; obtain ⟨a1, a2, a3, a4, a5⟩ := Boxed.appended Hv6.out (by decide) HR6.out (Nat.le_trans HBW.out.size hb6.out.size) (by have := hSZ.out; omega) hown7 hg7; have hc7 := a1.cell; have hf7 := a1.frozen; have A1_ := aS_ a1; have A2 := aS_ a2; have A3 := aS_ a3; have A4_ := aS_ a4; have A5 := aS_ a5; have HG7 := aS_ hg7; clear a1 a2 a3 a4 a5 hg7 hown7)
   ·refine ⟨⟨Nat.le_trans hb6.out.size A4_.out.size, fun k o _ hk ho => A4_.out.same k o ((hb6.out.block k (Array.getElem?_eq_some_iff.1 hk).1).trans hk) ho⟩, (hb6.out.mono HBW.out.size).trans A5.out, ?_, ⟨⟨_, A2.out, ?_⟩, ?_, ?_, (HBW.out.trans (hb6.out.mono HBW.out.size)).trans A5.out⟩⟩
    ·refine (KeepS.of_below (hb6.out)).trans ((KeepS.of_below (below_alloc (Below.refl wc.heap.size wc) _)).trans ((KeepS.of_grownBy HG7.out (fun k cells t hk ht hc => ?_)).trans (KeepS.setCell A1_.out (by decide))))
     obtain ⟨cs, hcs⟩ := own_typed HR6.out k hk
     rw [blk_alloc hcs _] at hc
     injection hc with hc
     injection hc with _ hc
     subst hc
     exact absurd ht (by decide)
    ·rw [took_snoc, if_pos (by rw [HIN.out]; simpa using (by assumption : (innerB y == b) = true))]
     rw [List.length_append, List.map_append]
     exact A3.out
    ·exact blk_far (p := ⟨w5.heap.size, 0, none⟩) (blk_grown (blk_alloc (blk_below Ht.out hb6.out) _) HG7.out (own_ne HR6.out (blk_below Ht.out hb6.out) (by decide))) (show w.heap.size ≠ w5.heap.size by have := hSZ.out; omega) _
    ·exact blk_far (p := ⟨w5.heap.size, 0, none⟩) (blk_grown (blk_alloc (blk_below Hbi.out hb6.out) _) HG7.out (own_ne HR6.out (blk_below Hbi.out hb6.out) (by decide))) (show w.heap.size + 1 ≠ w5.heap.size by have := hSZ.out; omega) _
   ·refine ⟨⟨hb6.out.size, fun k o _ hk ho => (hb6.out.block k (Array.getElem?_eq_some_iff.1 hk).1).trans hk⟩, hb6.out.mono HBW.out.size, KeepS.of_below hb6.out, ⟨⟨v, Hv6.out, ?_⟩, blk_below Ht.out hb6.out, blk_below Hbi.out hb6.out, HBW.out.trans (hb6.out.mono HBW.out.size)⟩⟩
    rw [took_snoc, if_neg (by rw [HIN.out]; simpa using (by assumption : (innerB y == b) = false))]
    exact HR6.out
 case done =>
  rintro D W hD ⟨⟨v, hv, hrow⟩, _, _, hB⟩ hd
  have hc := hv.cell
  have HRW := aS_ hrow
  have HBW := aS_ hB
  clear hrow hB hv
  gi_wp2
  refine ⟨by simp, .inl ⟨_, _, rfl, run_takeDeferred hd, ?_⟩⟩
  refine ⟨_, results_tmp2 rfl _ _ _, v, rfl, ownsRow_putObj HRW.out _ hd rfl, ?_⟩
  exact HBW.out.trans (belowK_b (w := w) (Nat.le_refl _) W D _ _ (by have := hbW.out.size; omega) hd rfl rfl)
end Go.Proofs.Ytfmjgjfbnilpoaa.FAll
