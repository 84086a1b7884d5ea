/-
  The second form's bound, brought to an ensemble's base: how long a slice in a struct can be. Plain.
-/
import Derived.Test.YtglpjgbgomppjaaDoorRows
import Derived.Test.YtglpjgbgomppjaaDoorOe
namespace Go.Proofs.YtglpjgbgomppjaaDoor.FAll
open Go.RowKit
set_option linter.unusedVariables false
theorem bulk_pos {H : Type} (d : DataW H) : 1 ≤ Rows.uptoBulk d := by
  rcases d with l | _ | d | ⟨xs, ys⟩ | xs | ⟨t, d⟩ | xs | h
  · cases l <;> simp [Rows.uptoBulk]
  all_goals simp [Rows.uptoBulk]
theorem bulk_mem {H : Type} {d : DataW H} : ∀ {l : List (DataW H)}, d ∈ l → Rows.uptoBulk d ≤ Rows.uptoBulkAll l
  | x :: r, h => by
    simp only [Rows.uptoBulkAll]
    rcases List.mem_cons.1 h with rfl | h
    · omega
    · have := bulk_mem h
      omega
theorem bulk_many {H : Type} : ∀ l : List (DataW H), l.length ≤ Rows.uptoBulkAll l
  | [] => Nat.zero_le _
  | x :: r => by
    have := bulk_pos x
    have := bulk_many r
    simp only [Rows.uptoBulkAll, List.length_cons]
    omega
theorem bulk_slice {P : Program} {H : Type} {enc : TypeId × Value → H} {w : World} {base : Nat} {spare : Nat → Bool} {held : Bool} {t e : TypeId} {fuel : Nat} {A : Option Addr} {n c : Nat} {x : DataW H × List MemPlace}
    (ht : P.underlying t = some (.slice e)) (h : DataW.trod enc P w base spare held fuel t [.slice A n c] = some x) : n ≤ Rows.uptoBulk x.1 := by
  rcases Deep.open_slice ht h with ⟨h1, rfl⟩ | ⟨a, len, cap, m, k, D, Pl, h1, _, _, _, _, rfl, _⟩
  · injection h1 with h1 _
    injection h1 with _ h2 _
    omega
  · injection h1 with h1 _
    injection h1 with _ h2 _
    have := bulk_many ((List.range len).map D)
    rw [List.length_map, List.length_range] at this
    simp only [Rows.uptoBulk]
    omega
theorem bulk_field {P : Program} {H : Type} {enc : TypeId × Value → H} {w : World} {base : Nat} {spare : Nat → Bool} {held : Bool} {t e : TypeId} {fs : Array Go.Field} {f : Go.Field} {i fuel : Nat} {cs : List Value} {A : Option Addr} {n c : Nat} {x : DataW H × List MemPlace}
    (ht : P.underlying t = some (.struct fs)) (hf : fs[i]? = some f) (hfu : P.underlying f.type = some (.slice e)) (hc : (cs.drop f.offset).take (P.cellsOf f.type) = [.slice A n c])
    (h : DataW.trod enc P w base spare held fuel t cs = some x) : n ≤ Rows.uptoBulk x.1 := by
  obtain ⟨ys, m, _, rfl, _, hyl, hy⟩ := DataW.trod_struct ht h
  have h1 := hy i f hf
  rw [hc] at h1
  have hi : i < ys.length := by
    rw [hyl]
    obtain ⟨hh, _⟩ := Array.getElem?_eq_some_iff.1 hf
    first | exact hh | (simpa using hh)
  rw [List.getElem?_eq_getElem hi] at h1
  have h2 := bulk_slice hfu h1
  have h3 : Rows.uptoBulk (ys[i]'hi).1 ≤ Rows.uptoBulkAll (ys.map (·.1)) := bulk_mem (List.mem_map.2 ⟨_, List.getElem_mem hi, rfl⟩)
  simp only [Rows.uptoBulk]
  omega
/-- An ensemble's base is short where the second form speaks. -/
theorem base_small {H : Type} {enc : TypeId × Value → H} {w : World} {base : Nat} {spare : Nat → Bool} {held : Bool} {fuel : Nat} {nm : ByteArray} {AF AB AT : Option Addr} {outs : Int} {lf cF n cB lt cT : Nat} {x : DataW H × List MemPlace} {ds : List (DataW H)}
    (h : DataW.trod enc Tryd.prog w base spare held fuel 26 [.string nm, .slice AF lf cF, .int .i64 outs, .slice AB n cB, .slice AT lt cT] = some x) (hm : x.1 ∈ ds) (hk : Rows.uptoSmall H ds = true) : n ≤ 1048576 := by
  have h1 := bulk_field (i := 3) Tryd.underlying26 rfl Tryd.underlying23 (by rfl) h
  have h2 := bulk_mem hm
  have h3 : Rows.uptoBulkAll ds ≤ 1048576 := of_decide_eq_true hk
  omega
end Go.Proofs.YtglpjgbgomppjaaDoor.FAll
