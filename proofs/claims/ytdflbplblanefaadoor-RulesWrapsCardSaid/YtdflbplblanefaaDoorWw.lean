/-
  The law RulesWraps: its walk.
-/
import Derived.Test.YtdflbplblanefaaDoorGb
import Derived.Test.YtdflbplblanefaaDoorLf
import Derived.Laws.StructEq
namespace Go.Proofs.YtdflbplblanefaaDoor.FAll
open Go.RowKit Go.Shelf Go.Maps Go.WideMaps Go.Proofs.YtdflbplblanefaaDoorW.PrintWords Go.Proofs.YtdflbplblanefaaDoorW.PrintLast Go.Proofs.YtdflbplblanefaaDoorW.PrintMore BTree
attribute [local go_sem] fstore_walk
set_option linter.unusedVariables false
set_option linter.unusedSimpArgs false
section
variable (nm : ByteArray) (AF : Option Addr) (cF : Nat) (fs : List ByteArray) (outs : Int) (AB : Option Addr) (cB : Nat) (bs : List Int) (AT : Option Addr) (cT : Nat) (ts : List S35) (AX : Option Addr) (cX : Nat) (xs : List Nat)
set_option maxHeartbeats 16000000 in
set_option maxRecDepth 100000 in
theorem wraps_wrong (w : World) (hfs : Aside0 (Kd.C Kd.string w AF fs.length fs)) (hsz : Aside0 (∀ s ∈ fs, s.size ≤ maxLen)) (hbs : Aside0 (Kd.C (Kd.int .i64) w AB bs.length bs)) (hts : Aside0 (Kd.C k35 w AT ts.length ts)) (htab : Aside0 (Tab w))
    (hsh : Aside0 (∀ y ∈ ts, ∃ k, 1 ≤ y.f1.length → trees_Shape.f k y.f0 y.f1 = some ((shapeV y).1, (shapeV y).2))) (r1 r2 r3 : Int) (HC : Aside0 (checkV shapeV nm fs outs bs ts = (r1, r2, r3))) (hr : r1 ≠ 0 ∨ (r1 = 0 ∧ r2 = 0 ∧ r3 = 0 ∧ xs.length ≠ fs.length)) :
    Calls Tryd.prog 3 #[.agg #[.string nm, .slice AF fs.length cF, .int .i64 outs, .slice AB bs.length cB, .slice AT ts.length cT], .slice AX xs.length cX] w fun e w' => e = .returned (.bool true) ∧ Below w.heap.size w w' := by
  have HB := Aside0.mk (Below.refl w.heap.size w)
  rcases hr with hr | ⟨rfl, rfl, rfl, hx⟩
  · have d1 : decide (r1 = 0 ∧ r2 = 0 ∧ r3 = 0) = false := decide_eq_false (fun h => hr h.1)
    have d2 : (r1 != 0) = true := by simpa using hr
    clear hr
    go_enter Tryd.func3, Tryd.ntmps3
    go_wp2_with (first | ((with_reducible refine gate_dst (N := 2) rfl ?_); refine box_event ?hg (N := 2) ?hd (cs := #[.string nm, .slice AF fs.length cF, .int .i64 outs, .slice AB bs.length cB, .slice AT ts.length cT]) (t := 26) ?hr ?_; (case hd => rfl); (case hg => rfl); (case hr => first | (go_simp; done) | (go_simp; rfl)); intro ge hg w1 hbox hb; have n0_ := Aside0.mk (below_step (kB0 HB) hb); have Bge := Aside0.mk hbox; clear HB; have HB := n0_; clear n0_ hb hbox hg; have he := blk5 (w := w1) Bge.out) | (go_at_call 5; refine (begins.calls _ ⟨tab_below htab.out (kB0 HB)⟩).mono ?_; rintro e w2 ⟨rfl, hb⟩; have n1_ := Aside0.mk (below_step (kB0 HB) hb); have m1_ := Aside0.mk (blk_below (kb Bge) hb); clear HB Bge he; have HB := n1_; have Bge := m1_; clear n1_ m1_; have he := blk5 (w := w2) Bge.out; clear hb) | (go_at_call 6; refine (rules_Valid.calls nm AF cF fs outs AB cB bs AT cT ts shapeV _ ⟨Kd.C_below hfs.out (kB0 HB)⟩ hsz ⟨Kd.C_below hbs.out (kB0 HB)⟩ ⟨Kd.C_below hts.out (kB0 HB)⟩ ⟨tab_below htab.out (kB0 HB)⟩ hsh r1 r2 r3 HC).mono ?_; rintro e w3 ⟨rfl, hb⟩; have n1_ := Aside0.mk (below_step (kB0 HB) hb); have m1_ := Aside0.mk (blk_below (kb Bge) hb); clear HB Bge he; have HB := n1_; have Bge := m1_; clear n1_ m1_; have he := blk5 (w := w3) Bge.out; clear hb; have he9 := fun o => blk5 (w := w3.alloc o) (blk_alloc Bge.out o)))
    go_ret
    exact ⟨rfl, kB0 HB⟩
  · have d3 : ((xs.length : Int) != (fs.length : Int)) = true := by simp; omega
    clear hx
    go_enter Tryd.func3, Tryd.ntmps3
    go_wp2_with (first | ((with_reducible refine gate_dst (N := 2) rfl ?_); refine box_event ?hg (N := 2) ?hd (cs := #[.string nm, .slice AF fs.length cF, .int .i64 outs, .slice AB bs.length cB, .slice AT ts.length cT]) (t := 26) ?hr ?_; (case hd => rfl); (case hg => rfl); (case hr => first | (go_simp; done) | (go_simp; rfl)); intro ge hg w1 hbox hb; have n0_ := Aside0.mk (below_step (kB0 HB) hb); have Bge := Aside0.mk hbox; clear HB; have HB := n0_; clear n0_ hb hbox hg; have he := blk5 (w := w1) Bge.out) | (go_at_call 5; refine (begins.calls _ ⟨tab_below htab.out (kB0 HB)⟩).mono ?_; rintro e w2 ⟨rfl, hb⟩; have n1_ := Aside0.mk (below_step (kB0 HB) hb); have m1_ := Aside0.mk (blk_below (kb Bge) hb); clear HB Bge he; have HB := n1_; have Bge := m1_; clear n1_ m1_; have he := blk5 (w := w2) Bge.out; clear hb) | (go_at_call 6; refine (rules_Valid.calls nm AF cF fs outs AB cB bs AT cT ts shapeV _ ⟨Kd.C_below hfs.out (kB0 HB)⟩ hsz ⟨Kd.C_below hbs.out (kB0 HB)⟩ ⟨Kd.C_below hts.out (kB0 HB)⟩ ⟨tab_below htab.out (kB0 HB)⟩ hsh 0 0 0 HC).mono ?_; rintro e w3 ⟨rfl, hb⟩; have n1_ := Aside0.mk (below_step (kB0 HB) hb); have m1_ := Aside0.mk (blk_below (kb Bge) hb); clear HB Bge he; have HB := n1_; have Bge := m1_; clear n1_ m1_; have he := blk5 (w := w3) Bge.out; clear hb; have he9 := fun o => blk5 (w := w3.alloc o) (blk_alloc Bge.out o)))
    go_ret
    exact ⟨rfl, kB0 HB⟩
/-- No sum wraps along the way. -/
structure NoWrap (M : Nat → Nat) : Prop where
  leaf : ∀ n : Nat, n < ts.length → -4611686018427387904 < (rd_T61 (rd_T35 ts (n : Int)).f1 (wayI (rd_T35 ts (n : Int)).f1 xs (M n))).f1 ∧ (rd_T61 (rd_T35 ts (n : Int)).f1 (wayI (rd_T35 ts (n : Int)).f1 xs (M n))).f1 < 4611686018427387904
  sum : ∀ n : Nat, n < ts.length → -4611686018427387904 < rdOf (0 : Int) (scoreG ts xs M bs (n + 1)) (rd_T35 ts (n : Int)).f0 ∧ rdOf (0 : Int) (scoreG ts xs M bs (n + 1)) (rd_T35 ts (n : Int)).f0 < 4611686018427387904
theorem rdOf_set' (l : List Int) (i : Int) (v : Int) (h0 : 0 ≤ i) (h1 : i < (l.length : Int)) : rdOf (0 : Int) (l.set i.toNat v) i = v := by
  unfold rdOf
  rw [List.getD_eq_getElem?_getD, List.getElem?_set_self (by omega)]
  rfl
set_option maxHeartbeats 16000000 in
set_option maxRecDepth 100000 in
theorem wraps_right (w : World) (hfs : Aside0 (Kd.C Kd.string w AF fs.length fs)) (hsz : Aside0 (∀ s ∈ fs, s.size ≤ maxLen)) (hbs : Aside0 (Kd.C (Kd.int .i64) w AB bs.length bs)) (hts : Aside0 (Kd.C k35 w AT ts.length ts)) (hxs : Aside0 (Kd.f64.C w AX xs.length xs)) (htab : Aside0 (Tab w))
    (hsh : Aside0 (∀ y ∈ ts, ∃ k, 1 ≤ y.f1.length → trees_Shape.f k y.f0 y.f1 = some ((shapeV y).1, (shapeV y).2))) (HC : Aside0 (checkV shapeV nm fs outs bs ts = (0, 0, 0)))
    (OU : Aside0 (1 ≤ outs ∧ outs ≤ 64)) (BO : Aside0 ((bs.length : Int) = outs)) (htl : Aside0 (ts.length ≤ 5000000000000)) (XL : Aside0 (xs.length = fs.length))
    (M : Nat → Nat) (HG : Aside0 (∀ n : Nat, n < ts.length → TreeGood (rd_T35 ts (n : Int)) outs xs (M n))) (HTR : Aside0 (∀ n : Nat, n < ts.length → (∃ T, TreeIs (rd_T35 ts (n : Int)).f1 T) ∧ (rd_T35 ts (n : Int)).f1.length ≤ 1000000000000)) (NW : Aside0 (NoWrap bs ts xs M)) :
    Calls Tryd.prog 3 #[.agg #[.string nm, .slice AF fs.length cF, .int .i64 outs, .slice AB bs.length cB, .slice AT ts.length cT], .slice AX xs.length cX] w fun e w' => e = .returned (.bool true) ∧ Below w.heap.size w w' := by
  have HB := Aside0.mk (Below.refl w.heap.size w)
  have BL := Aside0.mk (show 1 ≤ bs.length by have := OU.out; have := BO.out; omega)
  have BL2 := Aside0.mk (show bs.length ≤ 64 by have := OU.out; have := BO.out; omega)
  have d3 : ((xs.length : Int) != (fs.length : Int)) = false := by simp [XL.out]
  go_enter Tryd.func3, Tryd.ntmps3
  go_wp2_with (first | ((with_reducible refine gate_dst (N := 2) rfl ?_); refine box_event ?hg (N := 2) ?hd (cs := #[.string nm, .slice AF fs.length cF, .int .i64 outs, .slice AB bs.length cB, .slice AT ts.length cT]) (t := 26) ?hr ?_; (case hd => rfl); (case hg => rfl); (case hr => first | (go_simp; done) | (go_simp; rfl)); intro ge hg w1 hbox hb; have n0_ := Aside0.mk (below_step (kB0 HB) hb); have Bge := Aside0.mk hbox; clear HB; have HB := n0_; clear n0_ hb hbox hg; have he := blk5 (w := w1) Bge.out) | (go_at_call 5; refine (begins.calls _ ⟨tab_below htab.out (kB0 HB)⟩).mono ?_; rintro e w2 ⟨rfl, hb⟩; have n1_ := Aside0.mk (below_step (kB0 HB) hb); have m1_ := Aside0.mk (blk_below (kb Bge) hb); clear HB Bge he; have HB := n1_; have Bge := m1_; clear n1_ m1_; have he := blk5 (w := w2) Bge.out; clear hb) | (go_at_call 6; refine (rules_Valid.calls nm AF cF fs outs AB cB bs AT cT ts shapeV _ ⟨Kd.C_below hfs.out (kB0 HB)⟩ hsz ⟨Kd.C_below hbs.out (kB0 HB)⟩ ⟨Kd.C_below hts.out (kB0 HB)⟩ ⟨tab_below htab.out (kB0 HB)⟩ hsh 0 0 0 HC).mono ?_; rintro e w3 ⟨rfl, hb⟩; have n1_ := Aside0.mk (below_step (kB0 HB) hb); have m1_ := Aside0.mk (blk_below (kb Bge) hb); clear HB Bge he; have HB := n1_; have Bge := m1_; clear n1_ m1_; have he := blk5 (w := w3) Bge.out; clear hb; have he9 := fun o => blk5 (w := w3.alloc o) (blk_alloc Bge.out o)) | ((with_reducible refine gate_builtin (b := .append) (xs := #[.tmp 27, .tmp 29]) rfl ?_); at_builtin; refine Kd.R_append_rows (Kd.int .i64) (w0 := w) w.heap.size rfl (.tmp 27) (.tmp 29) 23 2 (.int .i64 0) 8 rfl Tryd.underlying23 infoI64 rfl (by decide) (by omega) (.slice (some ⟨w3.heap.size, 0, none⟩) 0 0) ([] : List Int) bs _ _ _ (fun _ => True) (fun _ => False) rfl rfl (R_one0 w3 _ (below_size HB.out)) (Kd.C_alloc (Kd.C_below hbs.out HB.out) _) (fun _ _ h => h) (fun _ h => h.elim) (fun _ _ => trivial) (below_alloc HB.out _) (below_size (below_alloc HB.out _)) (by have := BL2.out; simp only [List.length_nil]; omega) ?_; intro v5 w5 R5 hb5 hg5 _; rw [List.nil_append] at R5; have HO := Aside0.mk R5; have n1_ := Aside0.mk hb5; have m1_ := Aside0.mk (blk_grown (blk_alloc Bge.out _) hg5 (fun e_ => by have h1 : ge = w3.heap.size := (by simpa [Value.ownBlock] using e_); have h2 := blk_lt Bge.out; omega)); clear HB Bge he he9 R5 hb5 hg5; have HB := n1_; have Bge := m1_; clear n1_ m1_; have he := blk5 (w := w5) Bge.out))
  obtain ⟨g, cap, rfl, gb_, gl_, _⟩ := Kd.R_form HO.out BL.out
  have GB := Aside0.mk gb_
  clear gb_ gl_ d3 he
  have HO0 := HO
  clear HO
  have HO : Aside0 (Kd.R (Kd.int .i64) 2 w5 w.heap.size (fun _ => True) (.slice (some ⟨g, 0, none⟩) bs.length cap) (scoreG ts xs M bs 0)) := HO0
  clear HO0
  go_loopg [6] (ts.length + 1) (fun kq v6 w' => ∃ (z : Int) (n : Nat), v6 = .int .i64 z ∧ Aside0 (z = n) ∧ Aside0 (n ≤ ts.length) ∧ Aside0 (ts.length - n < kq) ∧ Aside0 (w'.heap[ge]? = some (.cells #[.string nm, .slice AF fs.length cF, .int .i64 outs, .slice AB bs.length cB, .slice AT ts.length cT] 26 (0, 0))) ∧ Aside0 (Below w.heap.size w w') ∧ Aside0 (Kd.R (Kd.int .i64) 2 w' w.heap.size (fun _ => True) (.slice (some ⟨g, 0, none⟩) bs.length cap) (scoreG ts xs M bs n)))
  case atStart => exact ⟨0, 0, rfl, ⟨rfl⟩, ⟨Nat.zero_le _⟩, ⟨by omega⟩, ⟨kb Bge⟩, ⟨kB0 HB⟩, ⟨kR HO⟩⟩
  case round =>
    clear HB Bge HO
    obtain ⟨z, n, rfl, hz, hn, hk, Bge, HB, HO⟩ := hrel
    cases gk with
    | zero => exact absurd hk.out (by omega)
    | succ k1 =>
      have hzz := hz.out
      have hnn := hn.out
      have he := blk5 (w := wr) Bge.out
      by_cases hend : n = ts.length
      · have cnd : decide (z < (ts.length : Int)) = false := decide_eq_false (by omega)
        subst hend
        clear hzz hnn
        go_wp2_with (first | (go_at_call 8; refine (trees_Score.calls nm AF cF fs outs AB cB bs AT cT ts AX cX xs M _ ⟨Kd.C_below hbs.out (kB0 HB)⟩ ⟨Kd.C_below hts.out (kB0 HB)⟩ ⟨Kd.C_below hxs.out (kB0 HB)⟩ OU.out.1 BO.out (by have := OU.out; have := BO.out; omega) XL.out htl HG).mono ?_; rintro e w7 ⟨AS, cS, rfl, gS, _, hb⟩; have GS := Aside0.mk gS; have r1_ := Aside0.mk (Kd.R_below (kR HO) hb); have n1_ := Aside0.mk (below_step (kB0 HB) hb); clear HB HO gS hb; have HB := n1_; have HO := r1_; clear n1_ r1_))
        go_loopg [13] (bs.length + 1) (fun kq v13 w' => ∃ (z : Int) (n : Nat), v13 = .int .i64 z ∧ Aside0 (z = n) ∧ Aside0 (n ≤ bs.length) ∧ Aside0 (bs.length - n < kq) ∧ Aside0 (Below w.heap.size w w') ∧ Aside0 (Kd.R (Kd.int .i64) 2 w' w.heap.size (fun _ => True) (.slice (some ⟨g, 0, none⟩) bs.length cap) (scoreG ts xs M bs ts.length)) ∧ Aside0 (Kd.C (Kd.int .i64) w' AS bs.length (scoreG ts xs M bs ts.length)))
        case atStart => exact ⟨0, 0, rfl, ⟨rfl⟩, ⟨Nat.zero_le _⟩, ⟨by omega⟩, ⟨kB0 HB⟩, ⟨kR HO⟩, ⟨GS.out⟩⟩
        case round =>
          clear HB HO GS
          obtain ⟨z2, n2, rfl, hz2, hn2, hk2, HB, HO, GS⟩ := hrel
          cases gk with
          | zero => exact absurd hk2.out (by omega)
          | succ k2 =>
            have hzz := hz2.out
            have hnn := hn2.out
            by_cases hend : n2 = bs.length
            · have cnd : decide (z2 < (bs.length : Int)) = false := decide_eq_false (by omega)
              clear hzz hnn hend
              go_wp2
              go_ret
              exact ⟨rfl, kB0 HB⟩
            · have cnd : decide (z2 < (bs.length : Int)) = true := decide_eq_true (by omega)
              have p1 : 0 ≤ z2 := by omega
              have p2 : z2 < (bs.length : Int) := by omega
              obtain ⟨aS, eas, ea⟩ := Kd.at_int GS.out z2 p1 p2
              subst eas
              obtain ⟨eb, _⟩ := Kd.R_celln (0 : Int) HO.out z2 p1 p2
              have hrr : rd (scoreG ts xs M bs ts.length) z2 = rdOf (0 : Int) (scoreG ts xs M bs ts.length) z2 := rfl
              rw [hrr] at ea
              obtain ⟨ov, hov⟩ : ∃ ov, ov = rdOf (0 : Int) (scoreG ts xs M bs ts.length) z2 := ⟨_, rfl⟩
              rw [← hov] at ea eb
              have HLT := Aside0.mk (show n2 < bs.length by omega)
              have XN := Aside0.mk hzz
              replace p1 := eq_true p1
              replace p2 := eq_true p2
              clear hzz hnn hend hov hrr
              go_wp2
              go_quiet (fail)
              go_wp2
              go_roundg k2
              case measure => have := hk2.out; omega
              case rel => exact ⟨_, n2 + 1, rfl, ⟨by have := XN.out; have := HLT.out; have := BL2.out; unfold wrap64; omega⟩, ⟨HLT.out⟩, ⟨by have := hk2.out; have := HLT.out; omega⟩, ⟨pw_below_drewN HB.out _⟩, ⟨Kd.R_drewN HO.out _⟩, ⟨Kd.C_drewN GS.out _⟩⟩
      · have cnd : decide (z < (ts.length : Int)) = true := decide_eq_true (by omega)
        have p1 : 0 ≤ z := by omega
        have p2 : z < (ts.length : Int) := by omega
        have hlt : n < ts.length := by omega
        obtain ⟨ad, A2, c2, rfl, e0, e1, l2, g2⟩ := at_T35 hts.out z p1 p2
        obtain ⟨⟨k, hks⟩, ⟨o0, o1⟩, hfe, hwy, hfw⟩ := HG.out n hlt
        obtain ⟨⟨T, hT⟩, hnl⟩ := HTR.out n hlt
        obtain ⟨lf0, lf1⟩ := NW.out.leaf n hlt
        obtain ⟨sm0, sm1⟩ := NW.out.sum n hlt
        have hstep : scoreG ts xs M bs (n + 1) = stepSc xs (scoreG ts xs M bs n) (rd_T35 ts (n : Int)) (M n) := rfl
        rw [hstep] at sm0 sm1
        unfold stepSc at hstep sm0 sm1
        rw [← hzz] at hks o0 o1 hfe hwy hT hnl lf0 lf1 sm0 sm1 hstep
        obtain ⟨y, hy⟩ : ∃ y, y = rd_T35 ts z := ⟨_, rfl⟩
        rw [← hy] at e0 e1 l2 g2 hks o0 o1 hfe hwy hT hnl lf0 lf1 sm0 sm1 hstep
        have ob : y.f0 < (bs.length : Int) := by have := BO.out; omega
        rw [rdOf_set' _ _ _ o0 (by rw [scoreG_length]; exact ob)] at sm0 sm1
        obtain ⟨nv, hnv⟩ : ∃ nv, nv = (rd_T61 y.f1 (wayI y.f1 xs (M n))).f1 := ⟨_, rfl⟩
        obtain ⟨ov, hov⟩ : ∃ ov, ov = rdOf (0 : Int) (scoreG ts xs M bs n) y.f0 := ⟨_, rfl⟩
        have hrr : rd (scoreG ts xs M bs n) y.f0 = ov := hov.symm
        rw [hrr, ← hnv] at sm0 sm1 hstep
        rw [← hnv] at lf0 lf1
        have dl1 : decide (nv ≥ 4611686018427387904) = false := decide_eq_false (by omega)
        have dl2 : decide (nv ≤ -4611686018427387904) = false := decide_eq_false (by omega)
        have ds1 : decide (wrap64 (ov + nv) ≥ 4611686018427387904) = false := decide_eq_false (by omega)
        have ds2 : decide (wrap64 (ov + nv) ≤ -4611686018427387904) = false := decide_eq_false (by omega)
        replace e0 := (HB.out.cell (World.block_lt_of_cell? w _ e0)).trans e0
        replace e1 := (HB.out.cell (World.block_lt_of_cell? w _ e1)).trans e1
        have G2 := Aside0.mk g2
        have L2 := Aside0.mk l2
        have KS := Aside0.mk hks
        have HF := Aside0.mk hfe
        have HW := Aside0.mk hwy
        have HMB := Aside0.mk hfw
        have HT := Aside0.mk hT
        have HNL := Aside0.mk hnl
        have HLT := Aside0.mk hlt
        have XN := Aside0.mk hzz
        have HOV := Aside0.mk hov
        have HNV := Aside0.mk hnv
        have STEP := Aside0.mk hstep
        have OO := Aside0.mk (⟨o0, ob⟩ : 0 ≤ y.f0 ∧ y.f0 < (bs.length : Int))
        replace p1 := eq_true p1
        replace p2 := eq_true p2
        have s1 := eq_true OO.out.1
        have s2 := eq_true OO.out.2
        clear hzz hnn hend hlt hy g2 l2 hks hfe hwy hfw hT hnl lf0 lf1 sm0 sm1 hov hnv hrr hstep o0 o1 ob
        go_wp2_with (first | (go_at_call 7; refine (leaf_ok _ y.f0 A2 c2 y.f1 AX cX xs T k (M n) ⟨Kd.C_below G2.out (kB0 HB)⟩ L2 ⟨Kd.C_below hxs.out (kB0 HB)⟩ KS HF HW HMB HT HNL).mono ?_; rintro e w6 ⟨zi, he_, hb⟩; rw [← HNV.out] at he_; subst he_; have n1_ := Aside0.mk (below_step (kB0 HB) hb); have m1_ := Aside0.mk (blk_below (kb Bge) hb); have r1_ := Aside0.mk (Kd.R_below (kR HO) hb); replace e0 := (hb.cell (World.block_lt_of_cell? _ _ e0)).trans e0; clear HB Bge HO he e1 hb; have HB := n1_; have Bge := m1_; have HO := r1_; clear n1_ m1_ r1_; have he := blk5 (w := w6) Bge.out; obtain ⟨ce, fz⟩ := Kd.R_celln (0 : Int) HO.out y.f0 OO.out.1 OO.out.2; rw [← HOV.out] at ce))
        have RS := Aside0.mk (Kd.R_putg HO.out y.f0 (wrap64 (ov + nv)))
        have HB2 := Aside0.mk (below_set (g := g) (j := y.f0.toNat) (v := .int .i64 (wrap64 (ov + nv))) HB.out (Kd.R_base HO.out g rfl))
        rw [← STEP.out] at RS
        have BG2 := Aside0.mk (blk_grown (kb Bge) RS.out.2 (Kd.R_ne HO.out Bge.out (by decide)))
        go_roundg k1
        case measure => have := hk.out; have := HLT.out; omega
        case rel => exact ⟨_, n + 1, rfl, ⟨by have := XN.out; have := HLT.out; have := htl.out; unfold wrap64; omega⟩, ⟨HLT.out⟩, ⟨by have := hk.out; have := HLT.out; omega⟩, ⟨kb BG2⟩, ⟨by first | exact HB2.out | repeat (first | exact HB2.out | apply pw_below_drewN | apply below_drew1)⟩, ⟨by first | exact RS.out.1 | (with_reducible repeat (first | apply Kd.R_drewN | apply Kd.R_drew)); exact RS.out.1⟩⟩
end
end Go.Proofs.YtdflbplblanefaaDoor.FAll
