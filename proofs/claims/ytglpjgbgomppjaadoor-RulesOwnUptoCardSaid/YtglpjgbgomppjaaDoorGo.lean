/-
  The law RulesOwn: its walk.
-/
import Derived.Test.YtglpjgbgomppjaaDoorGb
import Derived.Test.YtglpjgbgomppjaaDoorGr
import Derived.ArgAppend
namespace Go.Proofs.YtglpjgbgomppjaaDoor.FAll
open Go.RowKit Go.Shelf Go.Maps Go.WideMaps Go.Proofs.YtglpjgbgomppjaaDoorW.PrintWords Go.Proofs.YtglpjgbgomppjaaDoorW.PrintLast Go.Proofs.YtglpjgbgomppjaaDoorW.PrintMore
set_option linter.unusedVariables false
set_option linter.unusedSimpArgs false
theorem infoU : (Tryd.prog.info? 50).map (fun i => (i.zero, i.size, i.bytes)) = some (some (.int .u32 0), 1, 4) := by kernel_rfl
/-- A slice of n words at the head of a block of its own. -/
def OwnAt (w : World) (A : Option Addr) (n : Nat) : Prop := (0 < n → ∃ g, A = some ⟨g, 0, none⟩) ∧ ∀ g, A = some ⟨g, 0, none⟩ → ∃ cells, w.heap[g]? = some (.cells cells 50 (0, 0)) ∧ ∃ us : List Int, us.length = n ∧ ∀ j, j < n → cells[j]? = some (.int .u32 (us.getD j 0))
theorem own_at_of {w w' : World} {A : Option Addr} {xs : List Int} (h : Kd.C (Kd.int .u32) w' A xs.length xs) (hw : WhereAt w w' A) : OwnAt w' A xs.length := by
  have hr : ReadsOf (Value.int .u32) (0 : Int) w' A xs.length xs := Kd.reads_of_C h
  constructor
  · intro hn
    obtain ⟨ad, e1, _⟩ := hr.2.2 hn
    exact ⟨ad.block, by rw [e1, ← (hw ad e1).2.2.2]⟩
  · intro g e
    obtain ⟨_, _, ⟨cells, hcell⟩, _⟩ := hw _ e
    refine ⟨cells, hcell, xs, rfl, fun j hj => ?_⟩
    obtain ⟨ad, e1, hc⟩ := hr.2.2 (by omega)
    obtain rfl : ad = ⟨g, 0, none⟩ := Option.some.inj (e1.symm.trans e)
    have h2 := hc j hj
    rw [add_plain] at h2
    rw [← blk_cell hcell j]
    exact h2
theorem own_at_below {w w' : World} {A : Option Addr} {n : Nat} (h : OwnAt w A n) (hb : Below w.heap.size w w') : OwnAt w' A n := by
  refine ⟨h.1, fun g e => ?_⟩
  obtain ⟨cells, hc, us⟩ := h.2 g e
  exact ⟨cells, blk_below hc hb, us⟩
theorem own_at_put {w : World} {g n j : Nat} {x : Int} (h : OwnAt w (some ⟨g, 0, none⟩) n) (hj : j < n) : OwnAt (w.setCell ⟨g, j, none⟩ (.int .u32 x)) (some ⟨g, 0, none⟩) n := by
  refine ⟨h.1, fun g' e => ?_⟩
  obtain ⟨cells, hc, us, hl, hu⟩ := h.2 g rfl
  injection e with e
  injection e with e
  subst e
  have hjc : j < cells.size := by
    have := hu j hj
    exact (Array.getElem?_eq_some_iff.1 this).1
  refine ⟨_, blk_set hc j _, us.set j x, by simpa using hl, fun i hi => ?_⟩
  by_cases hij : i = j
  · subst hij
    simp [hjc, hl, hi, List.getD_eq_getElem?_getD]
  · have := hu i hi
    simp [Array.getElem?_setIfInBounds, List.getD_eq_getElem?_getD, List.getElem?_set, Ne.symm hij]
    simpa [List.getD_eq_getElem?_getD] using this
theorem own_at_cell {w : World} {g n j : Nat} (h : OwnAt w (some ⟨g, 0, none⟩) n) (hj : j < n) : ∃ u, w.cell? ⟨g, j, none⟩ = some (.int .u32 u) ∧ w.frozen? ⟨g, j, none⟩ = false := by
  obtain ⟨cells, hc, us, hl, hu⟩ := h.2 g rfl
  exact ⟨_, (blk_cell hc j).trans (hu j hj), blk_frozen hc j⟩
/-- What append reads of it. -/
theorem own_at_olds {w : World} {A : Option Addr} {n : Nat} (h : OwnAt w A n) (hA : ∀ ad, A = some ad → ad = ⟨ad.block, 0, none⟩) : ∃ us : List Int, us.length = n ∧ ∀ b, A = some b → ∀ (j : Nat) u, (us.map (Value.int .u32))[j]? = some u → w.cell? (b.add j) = some u := by
  cases A with
  | none =>
    refine ⟨List.replicate n 0, by simp, fun b e => by cases e⟩
  | some ad =>
    have e1 := hA ad rfl
    rw [e1] at h
    obtain ⟨cells, hc, us, hl, hu⟩ := h.2 ad.block rfl
    refine ⟨us, hl, fun b e j u hj => ?_⟩
    injection e with e
    subst e
    rw [List.getElem?_map] at hj
    obtain ⟨x, hx, rfl⟩ := Option.map_eq_some_iff.1 hj
    have hjn : j < n := by
      have := (List.getElem?_eq_some_iff.1 hx).1
      omega
    have h2 := hu j hjn
    rw [List.getD_eq_getElem?_getD, hx] at h2
    rw [e1, add_plain]
    exact (blk_cell hc j).trans h2
theorem own_at_none {w : World} {A : Option Addr} {n : Nat} (h : OwnAt w A n) (e : A = none) : n = 0 ∧ n = 0 := by
  subst e
  rcases Nat.eq_zero_or_pos n with h0 | h0
  · exact ⟨h0, h0⟩
  · obtain ⟨g, e⟩ := h.1 h0
    cases e
theorem new_one (w : World) (t : TypeId) (v : Value) : ∀ (j : Nat) u, [v][j]? = some u → (w.alloc (.cells #[v] t)).cell? ((⟨w.heap.size, 0, none⟩ : Addr).add j) = some u := by
  intro j u hj
  match j, hj with
  | 0, hj =>
    obtain rfl : v = u := by simpa using hj
    rw [add_plain]
    exact (blk_cell (blk_new w (.cells #[v] t)) 0).trans rfl
theorem kC0 {w w' : World} {A : Option Addr} {n : Nat} {xs : List Int} (h : Aside0 (Kd.C (Kd.int .u32) w A n xs)) (k : Kd.C (Kd.int .u32) w A n xs → Kd.C (Kd.int .u32) w' A n xs := by intro h_; (with_reducible repeat (first | refine Kd.C_alloc ?_ _ | refine Kd.C_drewN ?_ _ | refine Kd.C_drew ?_)); exact h_) : Kd.C (Kd.int .u32) w' A n xs := k h.out
/-- append(a, 78), where a is a slice of its own without room. -/
theorem append78 {ops : Array Oper} {rest : List Oper} {o : Oper} {a : Act} {Q : Exit → Act → World → Prop} {w : World} {A : Option Addr} {n : Nat} (h : OwnAt w A n) (hA : ∀ ad, A = some ad → ad = ⟨ad.block, 0, none⟩) (hn : n ≤ 1000)
    (hg : o.guard = none) (s x : Operand) (hop : o.op = Op.call { callee := Callee.builtin Builtin.append, args := #[s, x], argTypes := #[42, 42] }) (hs : a.eval s = .slice A n n) (hx : a.eval x = .slice (some ⟨w.heap.size, 0, none⟩) 1 1)
    (K : ∀ g cap w', w'.cell? ⟨g, n, none⟩ = some (.int .u32 78) → Below w.heap.size w w' → wpList Tryd.prog ops Q rest (a.put o.dst (.slice (some ⟨g, 0, none⟩) (n + 1) cap)) w') :
    wpList Tryd.prog ops Q (o :: rest) a (w.alloc (.cells #[.int .u32 78] 50)) := by
  obtain ⟨i0U, hiU, hU⟩ := Option.map_eq_some_iff.1 infoU
  simp only [Prod.mk.injEq] at hU
  obtain ⟨us, hul, huc⟩ := own_at_olds h hA
  refine wpList_append_grows _ hg s x 42 hop 50 i0U (.int .u32 0) 1 4 Tryd.underlying42 hiU hU.1 hU.2.1 hU.2.2 rfl (by decide) A n n (us.map (Value.int .u32)) hs (own_at_none h) (by rw [List.length_map, hul, Nat.mul_one]) (fun b e j u hj => pw_cell_below (below_alloc (Below.refl _ _) _) (huc b e j u hj)) ⟨w.heap.size, 0, none⟩ 1 1 [.int .u32 78] hx rfl (new_one _ _ _) (by intro u h_; obtain rfl : u = .int .u32 78 := (by simpa using h_); rfl) (by omega) (by unfold maxLen; omega) (by omega) ?_
  intro v7 w7 own7 g7
  have b7 : Below (w.alloc (.cells #[.int .u32 78] 50)).heap.size (w.alloc (.cells #[.int .u32 78] 50)) w7 := ⟨g7.os, g7.tape, g7.output, g7.size, fun k hk => g7.block k hk (by simp)⟩
  obtain ⟨g, cap, rfl, _⟩ := own7.form (Nat.succ_pos _)
  have x7 := own7.cells rfl n (.int .u32 78) (by rw [List.getElem?_append_right (by rw [List.length_map, hul]; exact Nat.le_refl _), List.length_map, hul, Nat.sub_self]; rfl)
  rw [add_plain] at x7
  exact K g cap w7 x7 (below_step (below_alloc (Below.refl _ _) _) b7)
section
variable (nm : ByteArray) (AF : Option Addr) (cF : Nat) (fs : List ByteArray) (outs : Int) (AB : Option Addr) (cB : Nat) (bs : List Int) (AT : Option Addr) (cT : Nat) (ts : List S33) (x : Int)
set_option maxHeartbeats 16000000 in
set_option maxRecDepth 100000 in
theorem own_law_at (w : World) (hbs : Aside0 (Kd.C (Kd.int .i64) w AB bs.length bs)) (hts : Aside0 (Kd.C k33 w AT ts.length ts)) (htab : Aside0 (Tab w))
    (hbl : Aside0 (bs.length ≤ 1000000000000)) (htl : Aside0 (ts.length ≤ 5000000000000))
    (r : List Int) (why : Int) (HR : Aside0 (r = (roomV bs ts x).1)) (HW : Aside0 (why = (roomV bs ts x).2)) (hrl : Aside0 (r.length ≤ 1000)) :
    Calls Tryd.prog 5 #[.agg #[.string nm, .slice AF fs.length cF, .int .i64 outs, .slice AB bs.length cB, .slice AT ts.length cT], .int .i64 x] w fun e w' => e = .returned (.bool true) ∧ Below w.heap.size w w' := by
  have HB := Aside0.mk (Below.refl w.heap.size w)
  go_enter Tryd.func5, Tryd.ntmps5
  go_wp2_with (first | ((with_reducible refine gate_dst (N := 2) rfl ?_); refine box_event ?hg (N := 2) ?hd (cs := #[.string nm, .slice AF fs.length cF, .int .i64 outs, .slice AB bs.length cB, .slice AT ts.length cT]) (t := 26) ?hr ?_; (case hd => rfl); (case hg => rfl); (case hr => first | (go_simp; done) | (go_simp; rfl)); intro ge hg w1 hbox hb; have n0_ := Aside0.mk (below_step (kB0 HB) hb); have Bge := Aside0.mk hbox; clear HB; have HB := n0_; clear n0_ hb hbox hg; have he := blk5 (w := w1) Bge.out) | (go_at_call 15; refine (begins.calls _ ⟨tab_below htab.out (kB0 HB)⟩).mono ?_; rintro e w2 ⟨rfl, hb⟩; have n1_ := Aside0.mk (below_step (kB0 HB) hb); have m1_ := Aside0.mk (blk_below (kb Bge) hb); clear HB Bge he hb; have HB := n1_; have Bge := m1_; clear n1_ m1_; have he := blk5 (w := w2) Bge.out; have tk1 := Aside0.mk (rfl : (1 : Nat) = 1)) | (go_at_call 10; have _t := tk1; refine (rules_Room.calls nm AF cF fs outs AB cB bs AT cT ts x _ ⟨Kd.C_below hbs.out (kB0 HB)⟩ ⟨Kd.C_below hts.out (kB0 HB)⟩ hbl htl).mono ?_; rintro e w3 ⟨A1, c1, rfl, g1, l1, p1, hb⟩; subst l1; rw [← HR.out] at g1 ⊢; rw [← HW.out]; have G1 := Aside0.mk g1; have P1 := Aside0.mk p1; have LW2 := Aside0.mk (below_size (kB0 HB) : w.heap.size ≤ w2.heap.size); have n1_ := Aside0.mk (below_step (kB0 HB) hb); have m1_ := Aside0.mk (blk_below (kb Bge) hb); clear HB Bge he hb g1 p1 tk1 _t; have HB := n1_; have Bge := m1_; clear n1_ m1_; have he := blk5 (w := w3) Bge.out; have tk2 := Aside0.mk (rfl : (2 : Nat) = 2)) | (go_at_call 10; have _t := tk2; refine (rules_Room.calls nm AF cF fs outs AB cB bs AT cT ts x _ ⟨Kd.C_below hbs.out (kB0 HB)⟩ ⟨Kd.C_below hts.out (kB0 HB)⟩ hbl htl).mono ?_; rintro e w4 ⟨B1, d1, rfl, g1, l1, p1, hb⟩; subst l1; rw [← HR.out] at g1 ⊢; rw [← HW.out]; have G2 := Aside0.mk g1; have P2 := Aside0.mk p1; have L34 := Aside0.mk (hb.size : w3.heap.size ≤ w4.heap.size); have O1 := Aside0.mk (own_at_below (own_at_of G1.out P1.out) hb); have Q1 := Aside0.mk (fun ad e => ((P1.out ad e).2.1 : ad.block < w3.heap.size)); have n1_ := Aside0.mk (below_step (kB0 HB) hb); have m1_ := Aside0.mk (blk_below (kb Bge) hb); clear HB Bge he hb g1 p1 tk2 _t; have HB := n1_; have Bge := m1_; clear n1_ m1_) | ((with_reducible refine gate_builtin (b := .append) (xs := #[.tmp 31, .tmp 32]) rfl ?_); at_builtin; refine Kd.R_append_rows (Kd.int .u32) (w0 := w4) w4.heap.size rfl (.tmp 31) (.tmp 32) 42 50 (.int .u32 0) 4 rfl Tryd.underlying42 infoU rfl (by decide) (by omega) (.slice none 0 0) ([] : List Int) r _ _ _ (fun _ => True) (fun _ => False) rfl rfl (Kd.R_nil _ _ _ _ (fun _ => True)) G2.out (fun _ _ h => h) (fun _ h => h.elim) (fun _ _ => trivial) (Below.refl _ _) (Nat.le_refl _) (by have := hrl.out; simp only [List.length_nil]; omega) ?_; intro v5 w5 R5 hb5 _ _; rw [List.nil_append] at R5; obtain ⟨A5, c5, e5, l5, g5⟩ := Kd.R_reads R5; subst e5; have W5 := Aside0.mk g5; have P5 := Aside0.mk (R_where R5); have n1_ := Aside0.mk (below_step (kB0 HB) hb5); have m1_ := Aside0.mk (blk_below (kb Bge) hb5); have o1_ := Aside0.mk (own_at_below O1.out hb5); have c2_ := Aside0.mk (Kd.C_below G2.out hb5); have F4 := Aside0.mk (hb5.size : w4.heap.size ≤ w5.heap.size); clear HB Bge O1 G2 R5 hb5 l5 g5; have HB := n1_; have Bge := m1_; have O1 := o1_; have G2 := c2_; clear n1_ m1_ o1_ c2_; have he := blk5 (w := w5) Bge.out; have tk3 := Aside0.mk (rfl : (3 : Nat) = 3)))
  clear he
  go_loopg [10] (r.length + 1) (fun kq v10 w' => ∃ (z : Int) (n : Nat), v10 = .int .i64 z ∧ Aside0 (z = n) ∧ Aside0 (n ≤ r.length) ∧ Aside0 (r.length - n < kq) ∧ Aside0 (w'.heap[ge]? = some (.cells #[.string nm, .slice AF fs.length cF, .int .i64 outs, .slice AB bs.length cB, .slice AT ts.length cT] 26 (0, 0))) ∧ Aside0 (Below w.heap.size w w') ∧ Aside0 (OwnAt w' A1 r.length) ∧ Aside0 (Kd.C (Kd.int .u32) w' B1 r.length r) ∧ Aside0 (Kd.C (Kd.int .u32) w' A5 r.length r))
  case atStart => exact ⟨0, 0, rfl, ⟨rfl⟩, ⟨Nat.zero_le _⟩, ⟨by omega⟩, ⟨kb Bge⟩, ⟨kB0 HB⟩, ⟨O1.out⟩, ⟨kC0 G2⟩, ⟨kC0 W5⟩⟩
  case round =>
    clear HB Bge O1 G2 W5
    obtain ⟨z, n, rfl, hx, hn, hk, Bge, HB, O1, G2, W5⟩ := hrel
    cases gk with
    | zero => exact absurd hk.out (by omega)
    | succ k1 =>
      have hxx := hx.out
      have hnn := hn.out
      by_cases hend : n = r.length
      · have cnd : decide (z < (r.length : Int)) = false := decide_eq_false (by omega)
        have he := blk5 (w := wr) Bge.out
        clear hxx hnn hend
        go_wp2_with (first | ((with_reducible refine gate_builtin (b := .append) (xs := #[.tmp 43, .tmp 44]) rfl ?_); at_builtin; refine append78 (w := wr) O1.out (fun ad e => (P1.out ad e).2.2.2) hrl.out rfl (.tmp 43) (.tmp 44) rfl rfl rfl ?_; intro a7 c7 w7 x7 b7; have X7 := Aside0.mk x7; have n1_ := Aside0.mk (below_step (kB0 HB) b7); have m1_ := Aside0.mk (blk_below (kb Bge) b7); have q1_ := Aside0.mk (Kd.C_below G2.out b7); have q2_ := Aside0.mk (Kd.C_below W5.out b7); clear HB Bge G2 W5 x7 b7 he; have HB := n1_; have Bge := m1_; have G2 := q1_; have W5 := q2_; clear n1_ m1_ q1_ q2_; have he := blk5 (w := w7) Bge.out; have tk4 := Aside0.mk (rfl : (4 : Nat) = 4)) | (go_at_call 10; have _t := tk4; refine (rules_Room.calls nm AF cF fs outs AB cB bs AT cT ts x _ ⟨Kd.C_below hbs.out (kB0 HB)⟩ ⟨Kd.C_below hts.out (kB0 HB)⟩ hbl htl).mono ?_; rintro e w8 ⟨C1, f1, rfl, g1, l1, _, hb⟩; subst l1; rw [← HR.out] at g1 ⊢; rw [← HW.out]; have G8 := Aside0.mk g1; have e7 := (hb.cell (World.block_lt_of_cell? _ _ X7.out)).trans X7.out; have q1_ := Aside0.mk (Kd.C_below G2.out hb); have q2_ := Aside0.mk (Kd.C_below W5.out hb); have n1_ := Aside0.mk (below_step (kB0 HB) hb); clear HB Bge he hb g1 tk4 _t G2 W5; have HB := n1_; have G2 := q1_; have W5 := q2_; clear n1_ q1_ q2_; have hi7 : wrap64 (r.length : Int) = (r.length : Int) := (by have := hrl.out; unfold wrap64; omega); have p7 : ((0 : Int) ≤ (r.length : Int)) = True := eq_true (by omega); have q7 : ((r.length : Int) < (r.length : Int) + 1) = True := eq_true (by omega)))
        clear e7 hi7 p7 q7
        go_loopg [13] (r.length + 1) (fun kq v13 w' => ∃ (z : Int) (n : Nat), v13 = .int .i64 z ∧ Aside0 (z = n) ∧ Aside0 (n ≤ r.length) ∧ Aside0 (r.length - n < kq) ∧ Aside0 (Below w.heap.size w w') ∧ Aside0 (Kd.C (Kd.int .u32) w' B1 r.length r) ∧ Aside0 (Kd.C (Kd.int .u32) w' A5 r.length r) ∧ Aside0 (Kd.C (Kd.int .u32) w' C1 r.length r))
        case atStart => exact ⟨0, 0, rfl, ⟨rfl⟩, ⟨Nat.zero_le _⟩, ⟨by omega⟩, ⟨kB0 HB⟩, ⟨kC0 G2⟩, ⟨kC0 W5⟩, ⟨kC0 G8⟩⟩
        case round =>
          clear HB G2 W5 G8
          obtain ⟨z', n', rfl, hx', hn', hk', HB, G2, W5, G8⟩ := hrel
          cases gk with
          | zero => exact absurd hk'.out (by omega)
          | succ k2 =>
            have hxx := hx'.out
            have hnn := hn'.out
            by_cases hend : n' = r.length
            · have cnd : decide (z' < (r.length : Int)) = false := decide_eq_false (by omega)
              clear hxx hnn hend
              go_wp2
              go_ret
              exact ⟨rfl, kB0 HB⟩
            · have cnd : decide (z' < (r.length : Int)) = true := decide_eq_true (by omega)
              have p1 : 0 ≤ z' := by omega
              have p2 : z' < (r.length : Int) := by omega
              have hlt : n' < r.length := by omega
              obtain ⟨ad1, rfl, e1⟩ := Kd.at_int G2.out z' p1 p2
              obtain ⟨ad2, rfl, e2⟩ := Kd.at_int W5.out z' p1 p2
              obtain ⟨ad3, rfl, e3⟩ := Kd.at_int G8.out z' p1 p2
              have HLT := Aside0.mk hlt
              have XN := Aside0.mk hxx
              replace p1 := eq_true p1
              replace p2 := eq_true p2
              clear hxx hnn hend hlt
              go_wp2
              go_quiet (fail)
              go_wp2
              go_roundg k2
              case measure => have := hk'.out; omega
              case rel => exact ⟨_, n' + 1, rfl, ⟨by have := XN.out; have := HLT.out; have := hrl.out; unfold wrap64; omega⟩, ⟨HLT.out⟩, ⟨by have := hk'.out; have := HLT.out; omega⟩, ⟨kB0 HB⟩, ⟨kC0 G2⟩, ⟨kC0 W5⟩, ⟨kC0 G8⟩⟩
      · have cnd : decide (z < (r.length : Int)) = true := decide_eq_true (by omega)
        have p1 : 0 ≤ z := by omega
        have p2 : z < (r.length : Int) := by omega
        have hlt : n < r.length := by omega
        have hzn : z.toNat = n := by omega
        obtain ⟨ga, ea⟩ := O1.out.1 (by omega)
        subst ea
        obtain ⟨u0, ec, ef⟩ := own_at_cell (j := z.toNat) O1.out (by omega)
        have hn1 : ga ≠ ge := by
          rintro rfl
          obtain ⟨cells, hc, _⟩ := O1.out.2 ga rfl
          have h := Bge.out
          rw [hc] at h
          injection h with h
          injection h with _ h
          exact absurd h (by decide)
        have ONEW := Aside0.mk (own_at_put (x := 77) (j := z.toNat) O1.out (by omega))
        have BNEW := Aside0.mk (blk_far (p := ⟨ga, z.toNat, none⟩) Bge.out (Ne.symm hn1) (.int .u32 77))
        have HNEW := Aside0.mk (below_set (g := ga) (j := z.toNat) (v := .int .u32 77) HB.out (Nat.le_trans LW2.out (P1.out _ rfl).1))
        have GNEW := Aside0.mk (C_block (w1 := wr.setCell ⟨ga, z.toNat, none⟩ (.int .u32 77)) G2.out (fun ad e => Below.heap_setCell wr ⟨ga, z.toNat, none⟩ (.int .u32 77) ad.block (by have h1 := (P2.out ad e).1; have h2 := Q1.out _ rfl; exact Nat.ne_of_gt (Nat.lt_of_lt_of_le h2 h1))))
        have WNEW := Aside0.mk (C_block (w1 := wr.setCell ⟨ga, z.toNat, none⟩ (.int .u32 77)) W5.out (fun ad e => Below.heap_setCell wr ⟨ga, z.toNat, none⟩ (.int .u32 77) ad.block (by have h1 := (P5.out ad e).1; have h2 := Q1.out _ rfl; exact Nat.ne_of_gt (Nat.lt_of_lt_of_le (Nat.lt_of_lt_of_le h2 L34.out) h1))))
        have HLT := Aside0.mk hlt
        have XN := Aside0.mk hxx
        replace p1 := eq_true p1
        replace p2 := eq_true p2
        clear hxx hnn hend hlt hzn hn1
        go_wp2
        go_roundg k1
        case measure => have := hk.out; omega
        case rel => exact ⟨_, n + 1, rfl, ⟨by have := XN.out; have := HLT.out; have := hrl.out; unfold wrap64; omega⟩, ⟨HLT.out⟩, ⟨by have := hk.out; have := HLT.out; omega⟩, ⟨kb BNEW⟩, ⟨kB0 HNEW⟩, ⟨ONEW.out⟩, ⟨kC0 GNEW⟩, ⟨kC0 WNEW⟩⟩
end
end Go.Proofs.YtglpjgbgomppjaaDoor.FAll
