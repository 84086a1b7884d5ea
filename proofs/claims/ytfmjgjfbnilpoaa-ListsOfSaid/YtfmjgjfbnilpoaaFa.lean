/-
 lists.fault: the first error of trees over so many features.
-/
import Derived.Test.YtfmjgjfbnilpoaaZq
import Derived.Test.YtfmjgjfbnilpoaaLc
namespace Go.Proofs.Ytfmjgjfbnilpoaa.FAll
open Go.RowKit Go.Shelf YtfmjgjfbnilpoaaW.PrintWords YtfmjgjfbnilpoaaW.PrintLast YtfmjgjfbnilpoaaW.PrintMore BTree
attribute [local go_sem] fstore_walk
set_option linter.unusedVariables false
set_option linter.unusedSimpArgs false
open Classical in
/-- A good tree's binary tree. -/
noncomputable def treeV (ns : List S71) : BT := if h : ∃ T, TreeIs ns T then h.choose else .leaf 0
theorem treeV_is {ns : List S71} (ok : TreeFine ns) : TreeIs ns (treeV ns) := by
 have h := tree_is ok
 unfold treeV
 rw [dif_pos h]
 exact h.choose_spec
/-- Does an inner node ask for a feature that is none? -/
def farB (F : Int) (x : S71) : Bool := x.f0 != 1 && decide (F ≤ x.f2)
/-- A tree's error. -/
noncomputable def faultT (F : Int) (y : S53) : Int :=
 if (shapeV y).1 ≠ 0 then (shapeV y).1 else if 4096 < (leavesL y.f1 (treeV y.f1)).length then 3 else if y.f1.any (farB F) = true then 72 else 0
noncomputable def faultL (F : Int) : List S53 → Int
 | [] => 0
 | y :: r => if faultT F y ≠ 0 then faultT F y else faultL F r
noncomputable def faultV (F : Int) (ts : List S53) : Int := if F < 0 ∨ 65536 < F then 2 else if 65536 < ts.length then 3 else faultL F ts
/-- What is known of the trees' sizes. -/
structure SmallT (ts : List S53) : Prop where
 nodes : ∀ y ∈ ts, y.f1.length ≤ 1759218604441
 cats : ∀ y ∈ ts, ∀ x ∈ y.f1, x.f4.length ≤ 9223372036854775807
theorem drop_cons_rd (ts : List S53) (n : Nat) (h : n < ts.length) : ts.drop n = rd_T53 ts (n : Int) :: ts.drop (n + 1) := by
 have e : rd_T53 ts (n : Int) = ts[n] := by
  unfold rd_T53
  rw [Int.toNat_natCast, List.getD_eq_getElem?_getD, List.getElem?_eq_getElem h]
  rfl
 rw [e, List.drop_eq_getElem_cons h]
theorem rdT_mem (ts : List S53) (n : Nat) (h : n < ts.length) : rd_T53 ts (n : Int) ∈ ts := by
 unfold rd_T53
 rw [Int.toNat_natCast, List.getD_eq_getElem?_getD, List.getElem?_eq_getElem h]
 exact List.getElem_mem h
theorem drop_cons_rdN (ns : List S71) (n : Nat) (h : n < ns.length) : ns.drop n = rd_T71 ns (n : Int) :: ns.drop (n + 1) := by
 have e : rd_T71 ns (n : Int) = ns[n] := by
  unfold rd_T71
  rw [Int.toNat_natCast, List.getD_eq_getElem?_getD, List.getElem?_eq_getElem h]
  rfl
 rw [e, List.drop_eq_getElem_cons h]
/-- trees.Leaves, whatever the tree: with the lists of the good ones. -/
theorem leaves_any (w : World) (A1 : Option Addr) (c1 : Nat) (y : S53) (hns : Aside0 (Kd.C k71 w A1 y.f1.length y.f1)) (hc1 : Aside0 (y.f1.length ≤ c1)) (hn : Aside0 (y.f1.length ≤ 1759218604441)) (hcats : ∀ x ∈ y.f1, x.f4.length ≤ 9223372036854775807) :
  Calls Try.prog 41 #[.agg #[.int .i64 y.f0, .slice A1 y.f1.length c1]] w fun e w' => ∃ A n c, e = .returned (.tuple #[.slice A n c, .int .i64 (shapeV y).1]) ∧ ((shapeV y).1 = 0 → n = (leavesL y.f1 (treeV y.f1)).length) ∧ Below w.heap.size w w' := by
 obtain ⟨⟨k, hk⟩, hok⟩ := shapeV_spec y (by have := hn.out; omega) hcats
 by_cases h0 : (shapeV y).1 = 0
 ·obtain ⟨h1, fine⟩ := hok h0
  rw [h1] at hk
  refine (leaves_ok w y.f0 A1 c1 y.f1 (treeV y.f1) k hns hc1 ⟨hk⟩ ⟨treeV_is fine⟩ hn).mono ?_
  rintro e w' ⟨v, rfl, hr, hb⟩
  obtain ⟨A, c, rfl, _, _⟩ := Kd.R_reads hr
  exact ⟨A, _, c, by rw [h1], fun _ => rfl, hb⟩
 ·refine (leaves_bad y.f0 A1 c1 y.f1 k (shapeV y).1 (shapeV y).2 w hns hc1 ⟨hk⟩ h0).mono ?_
  rintro e w' ⟨rfl, hb⟩
  exact ⟨none, 0, 0, rfl, fun h => absurd h h0, hb⟩
set_option maxHeartbeats 8000000 in
set_option maxRecDepth 100000 in
theorem lists_fault.calls (w : World) (A : Option Addr) (c : Nat) (ts : List S53) (F : Int) (hts : Aside0 (Kd.C k53 w A ts.length ts)) (hsm : SmallT ts) :
  Calls Try.prog 22 #[.slice A ts.length c, .int .i64 F] w fun e w' => e = .returned (.int .i64 (faultV F ts)) ∧ Below w.heap.size w w' := by
 have HB := aS_ (Below.refl w.heap.size w)
 have SM := aS_ hsm
 have LN := aS_ (show ts.length ≤ 9223372036854775807 from (show ReadsRow _ _ _ _ _ _ from hts.out).2.1)
 obtain ⟨r, hr⟩ : ∃ r, r = faultV F ts := ⟨_, rfl⟩
 rw [← hr]
 have RR := aS_ hr
 clear hr hsm
 go_enter Try.func22, Try.ntmps22
 by_cases h1 : F < 0
 ·have c1_ : decide (F < 0) = true := decide_eq_true h1
  have E := aS_ (show (2 : Int) = r by rw [RR.out]; unfold faultV; rw [if_pos (.inl h1)])
  clear h1
  go_wp2
  go_ret
  exact ⟨congrArg (fun z => Ending.returned (.int .i64 z)) E.out, kB0 HB⟩
 have c1_ : decide (F < 0) = false := decide_eq_false h1
 by_cases h2 : F > 65536
 ·have c2_ : decide (F > 65536) = true := decide_eq_true h2
  have E := aS_ (show (2 : Int) = r by rw [RR.out]; unfold faultV; rw [if_pos (.inr h2)])
  clear h1 h2
  go_wp2
  go_ret
  exact ⟨congrArg (fun z => Ending.returned (.int .i64 z)) E.out, kB0 HB⟩
 have c2_ : decide (F > 65536) = false := decide_eq_false h2
 by_cases h3 : ts.length > 65536
 ·have c3_ : decide ((ts.length : Int) > 65536) = true := decide_eq_true (by omega)
  have E := aS_ (show (3 : Int) = r by rw [RR.out]; unfold faultV; rw [if_neg (by omega), if_pos (by omega)])
  clear h1 h2 h3
  go_wp2
  go_ret
  exact ⟨congrArg (fun z => Ending.returned (.int .i64 z)) E.out, kB0 HB⟩
 have c3_ : decide ((ts.length : Int) > 65536) = false := decide_eq_false (by omega)
 have E := aS_ (show faultL F ts = r by rw [RR.out]; unfold faultV; rw [if_neg (by omega), if_neg (by omega)])
 clear h1 h2 h3 RR
 go_wp2
 go_loopg [22] (ts.length + 1) (fun kq v22 w' => ∃ (z : Int) (n : Nat), v22 = .int .i64 z ∧ Aside0 (z = n) ∧ Aside0 (n ≤ ts.length) ∧ Aside0 (ts.length - n < kq) ∧ Aside0 (faultL F (ts.drop n) = r) ∧ Aside0 (Below w.heap.size w w'))
 case atStart => exact ⟨0, 0, rfl, ⟨rfl⟩, ⟨Nat.zero_le _⟩, ⟨by omega⟩, E, HB⟩
 case round =>
  clear E HB
  obtain ⟨z, n, rfl, hz, hn, hk, E, HB⟩ := hrel
  cases gk with
  | zero => exact absurd hk.out (by omega)
  | succ k1 =>
   by_cases hend : n < ts.length
   ·have cnd : decide (z < (ts.length : Int)) = true := decide_eq_true (by have := hz.out; omega)
    have p1' : 0 ≤ z := by have := hz.out; omega
    have p2' : z < (ts.length : Int) := by have := hz.out; omega
    obtain ⟨ad, A1, c1, rfl, e0, e1, l1, g1⟩ := at_T53 hts.out z p1' p2'
    obtain ⟨y, hy⟩ : ∃ y, y = rd_T53 ts z := ⟨_, rfl⟩
    have hy' : y = rd_T53 ts (n : Int) := by rw [hy, hz.out]
    have YM := aS_ (show y ∈ ts by rw [hy']; exact rdT_mem ts n hend)
    rw [← hy] at e0 e1 l1 g1
    have ED := aS_ (show faultL F (y :: ts.drop (n + 1)) = r by rw [hy', ← drop_cons_rd ts n hend]; exact E.out)
    replace e0 := cB_ HB.out e0
    replace e1 := cB_ HB.out e1
    have L1 := aS_ l1
    have G1 := aS_ (Kd.C_below g1 HB.out)
    have GW := aS_ g1
    have p1 := eq_true p1'
    have p2 := eq_true p2'
    have NL := aS_ hend
    have wz : wrap64 (z + 1) = ((n + 1 : Nat) : Int) := by have := hz.out; have := LN.out; unfold wrap64; omega
    clear hy hy' l1 g1 p1' p2' E hend
    obtain ⟨sv, hsv⟩ : ∃ sv, sv = (shapeV y).1 := ⟨_, rfl⟩
    have SV := aS_ hsv
    clear hsv
    go_upto_region 9 with (first | (go_at_call 41; refine (leaves_any _ A1 c1 y ⟨Kd.C_below G1.out (below_alloc (Below.refl _ _) _)⟩ L1 ⟨SM.out.nodes y YM.out⟩ (SM.out.cats y YM.out)).mono ?_; rintro e w3 ⟨A3, n3, c3, rfl, hn3, hb⟩; rw [← SV.out] at hn3 ⊢; have N3 := aS_ hn3; have BT := blk_below (blk_new wr (.cells #[.int .i64 y.f0, .slice A1 y.f1.length c1] 53)) hb; have ht3 := blk2 BT; have m1_ := aS_ (below_step (below_alloc HB.out (.cells #[.int .i64 y.f0, .slice A1 y.f1.length c1] 53)) hb); have m2_ := aS_ (Kd.C_below (Kd.C_alloc G1.out _) hb); clear HB G1; have HB := m1_; have G1 := m2_; clear m1_ m2_ BT hb hn3))
    by_cases hs : sv = 0
    rotate_left
    ·have c4_ : (sv != 0) = true := bne_iff_ne.mpr hs
     have E2 := aS_ (show sv = r by rw [← ED.out]; unfold faultL faultT; rw [if_pos (show (shapeV y).1 ≠ 0 by rw [← SV.out]; exact hs), if_pos (show (shapeV y).1 ≠ 0 by rw [← SV.out]; exact hs)]; exact SV.out)
     have hs2 := eq_false hs
     clear hs
     go_wp2
     go_ret
     exact ⟨congrArg (fun z => Ending.returned (.int .i64 z)) E2.out, kB0 HB⟩
    have c4_ : (sv != 0) = false := by rw [hs]; rfl
    have N4 := N3.out hs
    have S0 := aS_ (show (shapeV y).1 = 0 by rw [← SV.out]; exact hs)
    subst hs
    by_cases hm : n3 > 4096
    ·have c5_ : decide ((n3 : Int) > 4096) = true := decide_eq_true (by omega)
     have e_ : faultT F y = 3 := by unfold faultT; rw [if_neg (by rw [S0.out]; exact fun h => h rfl), if_pos (by omega)]
     have E2 := aS_ (show (3 : Int) = r by rw [← ED.out]; unfold faultL; rw [e_, if_pos (by decide)])
     clear e_
     clear hm N3 N4
     go_wp2
     go_ret
     exact ⟨congrArg (fun z => Ending.returned (.int .i64 z)) E2.out, kB0 HB⟩
    have c5_ : decide ((n3 : Int) > 4096) = false := decide_eq_false (by omega)
    have ET := aS_ (show faultT F y = if y.f1.any (farB F) = true then 72 else 0 by unfold faultT; rw [if_neg (by rw [S0.out]; exact fun h => h rfl), if_neg (by omega)])
    clear hm N3 N4
    go_wp2
    go_loopg [40] (y.f1.length + 1) (fun kq v40 w' => ∃ (zi : Int) (i : Nat), v40 = .int .i64 zi ∧ Aside0 (zi = i) ∧ Aside0 (i ≤ y.f1.length) ∧ Aside0 (y.f1.length - i < kq) ∧ Aside0 (y.f1.any (farB F) = (y.f1.drop i).any (farB F)) ∧ Aside0 (Below w.heap.size w w'))
    case atStart => exact ⟨0, 0, rfl, ⟨rfl⟩, ⟨Nat.zero_le _⟩, ⟨by omega⟩, ⟨rfl⟩, HB⟩
    case round =>
     clear HB e0 e1 ht3 G1
     obtain ⟨zi, i, rfl, hi, hil, hk2, hany, HB⟩ := hrel
     cases gk with
     | zero => exact absurd hk2.out (by omega)
     | succ k2 =>
      by_cases hend : i < y.f1.length
      ·have cnd2 : decide (zi < (y.f1.length : Int)) = true := decide_eq_true (by have := hi.out; omega)
       have q1' : 0 ≤ zi := by have := hi.out; omega
       have q2' : zi < (y.f1.length : Int) := by have := hi.out; omega
       obtain ⟨an, A4, c4, rfl, f0, f1, f2, f3, f4, f5, f6, f7, l4, g4⟩ := at_T71 GW.out zi q1' q2'
       obtain ⟨x, hx⟩ : ∃ x, x = rd_T71 y.f1 zi := ⟨_, rfl⟩
       rw [← hx] at f0 f1 f2 f3 f4 f5 f6 f7
       have AN := aS_ (show (y.f1.drop i).any (farB F) = (farB F x || (y.f1.drop (i + 1)).any (farB F)) by rw [drop_cons_rdN y.f1 i hend, List.any_cons, hx, hi.out])
       replace f0 := cB_ HB.out f0
       replace f1 := cB_ HB.out f1
       replace f2 := cB_ HB.out f2
       replace f3 := cB_ HB.out f3
       replace f4 := cB_ HB.out f4
       replace f5 := cB_ HB.out f5
       replace f6 := cB_ HB.out f6
       replace f7 := cB_ HB.out f7
       have q1 := eq_true q1'
       have q2 := eq_true q2'
       have IL := aS_ hend
       have wzi : wrap64 (zi + 1) = ((i + 1 : Nat) : Int) := by have := hi.out; have := (SM.out.nodes y YM.out); unfold wrap64; omega
       clear hx l4 g4 q1' q2' hend
       by_cases hk1 : x.f0 = 1
       ·have c6_ : (x.f0 != 1) = false := by rw [hk1]; rfl
        have NX := aS_ (show farB F x = false by unfold farB; rw [c6_]; rfl)
        clear hk1
        go_wp2
        go_roundg k2
        case measure => exact Nat.lt_succ_self _
        case rel => exact ⟨_, i + 1, rfl, ⟨wzi⟩, ⟨IL.out⟩, ⟨by have := hk2.out; have := IL.out; omega⟩, ⟨by rw [hany.out, AN.out, NX.out, Bool.false_or]⟩, ⟨kB0 HB⟩⟩
       ·have c6_ : (x.f0 != 1) = true := bne_iff_ne.mpr hk1
        have hk3 := eq_false hk1
        clear hk1
        by_cases hf : x.f2 ≥ F
        ·have c7_ : decide (x.f2 ≥ F) = true := decide_eq_true hf
         have e_ : faultT F y = 72 := by
          rw [ET.out, hany.out, AN.out]
          unfold farB
          rw [c6_, show decide (F ≤ x.f2) = true from decide_eq_true hf]
          rfl
         have E2 := aS_ (show (72 : Int) = r by rw [← ED.out]; unfold faultL; rw [e_, if_pos (by decide)])
         clear e_ hf
         go_wp2
         go_ret
         exact ⟨congrArg (fun z => Ending.returned (.int .i64 z)) E2.out, kB0 HB⟩
        ·have c7_ : decide (x.f2 ≥ F) = false := decide_eq_false hf
         have NX := aS_ (show farB F x = false by unfold farB; rw [show decide (F ≤ x.f2) = false from decide_eq_false hf, Bool.and_false])
         clear hf
         go_wp2
         go_roundg k2
         case measure => exact Nat.lt_succ_self _
         case rel => exact ⟨_, i + 1, rfl, ⟨wzi⟩, ⟨IL.out⟩, ⟨by have := hk2.out; have := IL.out; omega⟩, ⟨by rw [hany.out, AN.out, NX.out, Bool.false_or]⟩, ⟨kB0 HB⟩⟩
      ·have cnd2 : decide (zi < (y.f1.length : Int)) = false := decide_eq_false (by have := hi.out; omega)
       have e_ : faultT F y = 0 := by rw [ET.out, hany.out, List.drop_eq_nil_of_le (show y.f1.length ≤ i by omega)]; rfl
       have E2 := aS_ (show faultL F (ts.drop (n + 1)) = r by rw [← ED.out, faultL, e_, if_neg (by decide)])
       clear e_
       clear hend
       go_wp2
       go_roundg k1
       case measure => exact Nat.lt_succ_self _
       case rel => exact ⟨_, n + 1, rfl, ⟨wz⟩, ⟨NL.out⟩, ⟨by have := hk.out; have := NL.out; omega⟩, E2, HB⟩
   ·have cnd : decide (z < (ts.length : Int)) = false := decide_eq_false (by have := hz.out; omega)
    have E2 := aS_ (show (0 : Int) = r by rw [← E.out, List.drop_eq_nil_of_le (by omega)]; rfl)
    clear hend
    go_wp2
    go_ret
    exact ⟨congrArg (fun z => Ending.returned (.int .i64 z)) E2.out, kB0 HB⟩
end Go.Proofs.Ytfmjgjfbnilpoaa.FAll
