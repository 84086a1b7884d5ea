/-
  rules.first: the first rule that doesn't hold.
-/
import Derived.Test.YtpeiafamkajedaaDoorFAllx0
import Derived.Laws.EntriesVeiled
namespace Go.Proofs.YtpeiafamkajedaaDoor.FAll
open Go.RowKit Go.Proofs.YtpeiafamkajedaaDoorW.PrintWords Go.Proofs.YtpeiafamkajedaaDoorW.PrintLast Go.Proofs.YtpeiafamkajedaaDoorW.PrintMore
set_option linter.unusedVariables false
set_option linter.unusedSimpArgs false

/-- A rule as the walk sees it: its number, the function that tells, what it captured, and what it answers. -/
structure RuleV where
  num : Int
  g : Nat
  cap : Array Value
  ok : Bool
/-- What first answers. -/
def firstV : List RuleV → Int × Bool
  | [] => (0, false)
  | r :: l => if r.ok = true then firstV l else (r.num, true)

/-- The rules lie in memory, and each answers. -/
structure RulesAt (w : World) (ad : Addr) (cs : List RuleV) : Prop where
  cells : ∀ i r, cs[i]? = some r → w.cell? (ad.add (i * 2)) = some (.int .i64 r.num) ∧ w.cell? ⟨(ad.add (i * 2)).block, (ad.add (i * 2)).off + 1, none⟩ = some (.func (.func r.g) #[] r.cap)
  enters : ∀ r ∈ cs, ∀ (args : Array Value) (w' : World), (callFunc r.g args).run Tryd.prog w' = .ok (.enter r.g args) w'
  tells : ∀ r ∈ cs, ∀ w', Below w.heap.size w w' → Calls Tryd.prog r.g r.cap w' fun e w'' => e = .returned (.bool r.ok) ∧ Below w'.heap.size w' w''

set_option maxHeartbeats 8000000 in
set_option maxRecDepth 100000 in
theorem rules_first.calls (ad : Addr) (c0 : Nat) (cs : List RuleV) (hl : cs.length ≤ 100) (w : World) (h : RulesAt w ad cs) :
    Calls Tryd.prog 23 #[.slice (some ad) cs.length c0] w fun e w' => e = .returned (.tuple #[.int .i64 (firstV cs).1, .bool (firstV cs).2]) ∧ Below w.heap.size w w' := by
  have HB := Aside0.mk (Below.refl w.heap.size w)
  have HL := Aside0.mk hl
  have HH := Aside0.mk h
  clear h hl
  obtain ⟨m, hm⟩ : ∃ m, m = firstV cs := ⟨_, rfl⟩
  rw [← hm]
  have HM := Aside0.mk hm
  clear hm
  go_enter Tryd.func23, Tryd.ntmps23
  go_wp2
  go_loopg [8] (cs.length + 1) (fun kq v8 w' => ∃ (x : Int) (n : Nat), v8 = .int .i64 x ∧ Aside0 (x = n) ∧ Aside0 (firstV (cs.drop n) = m) ∧ Aside0 (n ≤ cs.length) ∧ Aside0 (cs.length - n < kq) ∧ Aside0 (Below w.heap.size w w'))
  case atStart => exact ⟨0, 0, rfl, ⟨rfl⟩, ⟨by rw [List.drop_zero]; exact HM.out.symm⟩, ⟨Nat.zero_le _⟩, ⟨by omega⟩, ⟨kB0 HB⟩⟩
  case round =>
    clear HB
    obtain ⟨x, n, rfl, hx, hs, hn, hk, HB⟩ := hrel
    cases gk with
    | zero => exact absurd hk.out (by omega)
    | succ k1 =>
      have hxx := hx.out
      have hnn := hn.out
      by_cases he : n = cs.length
      · have c1 : decide (x < (cs.length : Int)) = false := decide_eq_false (by omega)
        have hm : m = (0, false) := by rw [← hs.out, he, List.drop_length]; rfl
        subst hm
        clear hxx hnn he
        go_wp2
        go_ret2
        exact ⟨rfl, kB0 HB⟩
      · have c1 : decide (x < (cs.length : Int)) = true := decide_eq_true (by omega)
        have hlt : n < cs.length := by omega
        obtain ⟨r, hr⟩ : ∃ r, cs[n]? = some r := ⟨_, List.getElem?_eq_getElem hlt⟩
        obtain ⟨k0, k1'⟩ := HH.out.cells n r hr
        have ht := HH.out.tells r (List.mem_of_getElem? hr)
        have eg := HH.out.enters r (List.mem_of_getElem? hr)
        have p1 : 0 ≤ x := by omega
        have p2 : x < (cs.length : Int) := by omega
        have en : x.toNat = n := by omega
        have hstep : firstV (cs.drop n) = if r.ok = true then firstV (cs.drop (n + 1)) else (r.num, true) := by
          rw [List.drop_eq_getElem_cons hlt]
          obtain rfl : r = cs[n] := (Option.some.inj ((List.getElem?_eq_getElem hlt).symm.trans hr)).symm
          rfl
        rw [← en] at k0 k1'
        replace k0 := (HB.out.cell (World.block_lt_of_cell? w _ k0)).trans k0
        replace k1' := (HB.out.cell (World.block_lt_of_cell? w _ k1')).trans k1'
        have ES := Aside0.mk (hstep.symm.trans hs.out)
        have HT := Aside0.mk ht
        have HLT := Aside0.mk hlt
        clear hxx hnn he hstep hr ht hlt en
        replace p1 := eq_true p1
        replace p2 := eq_true p2
        by_cases ho : r.ok = true
        · have o1 : r.ok = true := ho
          have E2 := Aside0.mk (by have h := ES.out; rw [if_pos ho] at h; exact h)
          clear ES
          go_wp2_with (first | (with_reducible refine (HT.out _ (kB0 HB)).mono ?_; rintro e w3 ⟨rfl, hb⟩; have n1_ := Aside0.mk (below_step (kB0 HB) hb); clear HB; have HB := n1_; clear n1_ hb))
          go_roundg k1
          case measure => have := hk.out; omega
          case rel => exact ⟨_, n + 1, rfl, ⟨by have := hx.out; have := HLT.out; have := HL.out; unfold wrap64; omega⟩, E2, ⟨HLT.out⟩, ⟨by have := hk.out; have := HLT.out; omega⟩, ⟨kB0 HB⟩⟩
        · have o1 : r.ok = false := by simpa using ho
          have hm : m = (r.num, true) := by have h := ES.out; rw [if_neg ho] at h; exact h.symm
          subst hm
          clear ES ho
          go_wp2_with (first | (with_reducible refine (HT.out _ (kB0 HB)).mono ?_; rintro e w3 ⟨rfl, hb⟩; have n1_ := Aside0.mk (below_step (kB0 HB) hb); have hv := (hb.cell (p := ⟨wr.heap.size, 0, none⟩) (by simp)).trans (show _ = some (Value.int .i64 r.num) by first | (simp; done) | (go_simp; done)); clear HB; have HB := n1_; clear n1_))
          go_ret2
          exact ⟨rfl, kB0 HB⟩
end Go.Proofs.YtpeiafamkajedaaDoor.FAll
