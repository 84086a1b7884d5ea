/-
  thicketlaw08.small, its blocks written out; what blocks read as.
-/
import Derived.Test.YtglpjgbgomppjaaDoorGt
import Derived.Test.YtglpjgbgomppjaaDoorPf
namespace Go.Proofs.YtglpjgbgomppjaaDoor.FAll
open Go.RowKit Go.Shelf Go.Maps Go.WideMaps Go.Proofs.YtglpjgbgomppjaaDoorW.PrintWords Go.Proofs.YtglpjgbgomppjaaDoorW.PrintLast Go.Proofs.YtglpjgbgomppjaaDoorW.PrintMore
attribute [local go_sem] fstore_walk
set_option linter.unusedVariables false
set_option linter.unusedSimpArgs false
structure SmallAt (w : World) (s : Nat) : Prop where
  b1 : w.heap[s + 1]? = some (.cells #[.string (⟨#[97]⟩ : ByteArray)] 9 (0, 0))
  b2 : w.heap[s + 2]? = some (.cells #[.int .i64 0] 2 (0, 0))
  b3 : w.heap[s + 3]? = some (.cells #[.int .u8 1, .int .i64 5, .int .i64 0, .float .f64 0, .slice none 0 0, .int .u8 0, .int .i64 0, .int .i64 0] 40 (0, 0))
  b4 : w.heap[s + 4]? = some (.cells #[.int .i64 0, .slice (some ⟨s + 3, 0, none⟩) 1 1] 33 (0, 0))
theorem alloc_at (w : World) (b : Nat) (o : Obj) (h : w.heap.size = b) : (w.alloc o).heap[b]? = some o := by
  subst h
  exact heap_alloc_new w o
set_option maxHeartbeats 1000000 in
theorem small_blk (w : World) (s : Nat) (hs : w.heap.size = s) : Calls Tryd.prog 6 #[] w fun e w' => e = .returned (.agg #[.string smallN, .slice (some ⟨s + 1, 0, none⟩) 1 1, .int .i64 1, .slice (some ⟨s + 2, 0, none⟩) 1 1, .slice (some ⟨s + 4, 0, none⟩) 1 1]) ∧ w'.heap.size = s + 5 ∧ SmallAt w' s ∧ Below w.heap.size w w' := by
  subst hs
  go_enter Tryd.func6, Tryd.ntmps6
  go_wp2
  refine bodyPost_ret (results_cell_row rfl _ _ w.heap.size 26 #[.string smallN, .slice (some ⟨w.heap.size + 1, 0, none⟩) 1 1, .int .i64 1, .slice (some ⟨w.heap.size + 2, 0, none⟩) 1 1, .slice (some ⟨w.heap.size + 4, 0, none⟩) 1 1] (0, 0) _ rfl (by
    refine (Below.heap_alloc _ _ _ (by simp only [World.size_alloc]; omega)).trans ?_
    refine (Below.heap_alloc _ _ _ (by simp only [World.size_alloc]; omega)).trans ?_
    refine (Below.heap_alloc _ _ _ (by simp only [World.size_alloc]; omega)).trans ?_
    refine (Below.heap_alloc _ _ _ (by simp only [World.size_alloc]; omega)).trans ?_
    exact heap_alloc_new w _) Tryd.underlying26 rfl (by kernel_rfl)) rfl ⟨rfl, by simp only [World.size_alloc], ⟨?_, ?_, ?_, ?_⟩, ?_⟩
  · refine (Below.heap_alloc _ _ _ (by simp only [World.size_alloc]; omega)).trans ?_
    refine (Below.heap_alloc _ _ _ (by simp only [World.size_alloc]; omega)).trans ?_
    refine (Below.heap_alloc _ _ _ (by simp only [World.size_alloc]; omega)).trans ?_
    exact alloc_at _ _ _ (by simp only [World.size_alloc])
  · refine (Below.heap_alloc _ _ _ (by simp only [World.size_alloc]; omega)).trans ?_
    refine (Below.heap_alloc _ _ _ (by simp only [World.size_alloc]; omega)).trans ?_
    exact alloc_at _ _ _ (by simp only [World.size_alloc])
  · refine (Below.heap_alloc _ _ _ (by simp only [World.size_alloc]; omega)).trans ?_
    exact alloc_at _ _ _ (by simp only [World.size_alloc])
  · exact alloc_at _ _ _ (by simp only [World.size_alloc])
  · exact below_alloc (below_alloc (below_alloc (below_alloc (below_alloc (Below.refl _ _) _) _) _) _) _
theorem C_str {w : World} {b : Nat} {t : TypeId} {x : ByteArray} (h : w.heap[b]? = some (.cells #[.string x] t (0, 0))) : Kd.C Kd.string w (some ⟨b, 0, none⟩) 1 [x] := by
  refine ⟨rfl, by decide, fun _ => ⟨_, rfl, fun j p hj => ?_⟩⟩
  rcases j with _ | j
  · obtain rfl : x = p := by simpa using hj
    refine ⟨[.string x], rfl, rfl, fun i u hu => ?_⟩
    rw [Nat.zero_mul, Nat.zero_add, add_plain]
    exact (blk_cell h i).trans (by rw [← hu, ← List.getElem?_toArray])
  · simp at hj
theorem C_int {w : World} {b : Nat} {t : TypeId} {k : IntKind} {x : Int} (h : w.heap[b]? = some (.cells #[.int k x] t (0, 0))) : Kd.C (Kd.int k) w (some ⟨b, 0, none⟩) 1 [x] := by
  refine ⟨rfl, by decide, fun _ => ⟨_, rfl, fun j p hj => ?_⟩⟩
  rcases j with _ | j
  · obtain rfl : x = p := by simpa using hj
    refine ⟨[.int k x], rfl, rfl, fun i u hu => ?_⟩
    rw [Nat.zero_mul, Nat.zero_add, add_plain]
    exact (blk_cell h i).trans (by rw [← hu, ← List.getElem?_toArray])
  · simp at hj
theorem C_leaf {w : World} {b : Nat} {t : TypeId} (h : w.heap[b]? = some (.cells #[.int .u8 1, .int .i64 5, .int .i64 0, .float .f64 0, .slice none 0 0, .int .u8 0, .int .i64 0, .int .i64 0] t (0, 0))) : Kd.C k40 w (some ⟨b, 0, none⟩) 1 [leaf5] := by
  refine ⟨rfl, by decide, fun _ => ⟨_, rfl, fun j p hj => ?_⟩⟩
  rcases j with _ | j
  · obtain rfl : leaf5 = p := by simpa using hj
    refine ⟨[.int .u8 1, .int .i64 5, .int .i64 0, .float .f64 0, .slice none 0 0, .int .u8 0, .int .i64 0, .int .i64 0], rfl, ⟨[_], [_, _, _, _, _, _, _], rfl, rfl, ⟨[_], [_, _, _, _, _, _], rfl, rfl, ⟨[_], [_, _, _, _, _], rfl, rfl, ⟨[_], [_, _, _, _], rfl, rfl, ⟨[_], [_, _, _], rfl, ⟨none, 0, rfl, Nat.le_refl _, Kd.C_nil _ _⟩, ⟨[_], [_, _], rfl, rfl, ⟨[_], [_], rfl, rfl, rfl⟩⟩⟩⟩⟩⟩⟩, fun i u hu => ?_⟩
    rw [Nat.zero_mul, Nat.zero_add, add_plain]
    exact (blk_cell h i).trans (by rw [← hu, ← List.getElem?_toArray])
  · simp at hj
theorem C_tree {w : World} {b n c : Nat} {t : TypeId} {t0 : Int} {A : Option Addr} {ns : List S40} (h : w.heap[b]? = some (.cells #[.int .i64 t0, .slice A n c] t (0, 0))) (hn : n = ns.length) (hc : n ≤ c) (hC : Kd.C k40 w A ns.length ns) : Kd.C k33 w (some ⟨b, 0, none⟩) 1 [⟨t0, ns⟩] := by
  subst hn
  refine ⟨rfl, by decide, fun _ => ⟨_, rfl, fun j p hj => ?_⟩⟩
  rcases j with _ | j
  · obtain rfl : (⟨t0, ns⟩ : S33) = p := by simpa using hj
    refine ⟨[.int .i64 t0, .slice A ns.length c], rfl, ⟨[_], [_], rfl, rfl, ⟨A, c, rfl, hc, hC⟩⟩, fun i u hu => ?_⟩
    rw [Nat.zero_mul, Nat.zero_add, add_plain]
    exact (blk_cell h i).trans (by rw [← hu, ← List.getElem?_toArray])
  · simp at hj
end Go.Proofs.YtglpjgbgomppjaaDoor.FAll
