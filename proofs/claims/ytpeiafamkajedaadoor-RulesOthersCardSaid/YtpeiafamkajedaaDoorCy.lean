/-
  trees.Copy: an ensemble of its own, in all its depth.
-/
import Derived.Test.YtpeiafamkajedaaDoorCl
import Derived.Test.YtpeiafamkajedaaDoorLa
namespace Go.Proofs.YtpeiafamkajedaaDoor.FAll
open Go.RowKit Go.Shelf Go.Proofs.YtpeiafamkajedaaDoorW.PrintWords Go.Proofs.YtpeiafamkajedaaDoorW.PrintLast Go.Proofs.YtpeiafamkajedaaDoorW.PrintMore
attribute [local go_sem] fstore_walk
set_option linter.unusedVariables false
set_option linter.unusedSimpArgs false
theorem infoTreeC : (Tryd.prog.info? 37).map (fun i => (i.zero, i.size, i.bytes)) = some (some (.agg #[.int .i64 0, .slice none 0 0]), 2, 32) := by kernel_rfl
/-- What the sizes must be. -/
structure CopySizes (fs : List ByteArray) (bs : List Int) (ts : List S37) : Prop where
  nodes : ∀ y ∈ ts, y.f1.length * 80 ≤ 140737488355328 ∧ ∀ x ∈ y.f1, x.f4.length * 8 ≤ 140737488355328
  fs : fs.length * 16 ≤ 140737488355328
  bs : bs.length * 8 ≤ 140737488355328
  ts : ts.length * 32 ≤ 140737488355328
theorem Kd.R_setB {α : Type} {d : Kd α} {e : Nat} {w : World} {b : Nat} {ok : Nat → Prop} {v : Value} {xs : List α} {g t : Nat} {cs : Array Value} (h : d.R e w b ok v xs) (hg : w.heap[g]? = some (.cells cs t (0, 0))) (ht : ∀ q, q ∈ e :: d.E → q ≠ t) (i : Nat) (u : Value) : d.R e (w.setCell ⟨g, i, none⟩ u) b ok v xs :=
  Kd.R_mono (Kd.R_far (p := ⟨g, i, none⟩) (Kd.R_types h hg ht) (fun _ hk => hk.2) u) (fun _ hk => hk.1)
theorem Kd.R_six {α : Type} {d : Kd α} {e : Nat} {w : World} {b : Nat} {v : Value} {xs : List α} {ge gr t : Nat} {cs cs' : Array Value} (h : d.R e w b (fun _ => True) v xs) (hg : w.heap[ge]? = some (.cells cs t (0, 0))) (hr : w.heap[gr]? = some (.cells cs' t (0, 0))) (ht : ∀ q, q ∈ e :: d.E → q ≠ t) (u v0 v1 v2 v3 v4 : Value) :
    d.R e ((((((w.setCell ⟨ge, 4, none⟩ u).setCell ⟨gr, 0, none⟩ v0).setCell ⟨gr, 1, none⟩ v1).setCell ⟨gr, 2, none⟩ v2).setCell ⟨gr, 3, none⟩ v3).setCell ⟨gr, 4, none⟩ v4) b (fun _ => True) v xs :=
  Kd.R_mono (Kd.R_move (Kd.R_types (Kd.R_types h hg ht) hr ht) (fun k hk => by
    rw [Below.heap_setCell _ _ _ k hk.2, Below.heap_setCell _ _ _ k hk.2, Below.heap_setCell _ _ _ k hk.2, Below.heap_setCell _ _ _ k hk.2, Below.heap_setCell _ _ _ k hk.2, Below.heap_setCell _ _ _ k hk.1.2])) (fun _ _ => trivial)
/-- The nodes of which the first m are copied. -/
def mixL (l : List S65) (m : Nat) : List (Bool × S65) := (l.take m).map (fun x => (true, x)) ++ (l.drop m).map fun x => (false, x)
theorem mixL_zero (l : List S65) : mixL l 0 = l.map fun x => (false, x) := by unfold mixL; rw [List.take_zero, List.drop_zero]; rfl
theorem mixL_all (l : List S65) : mixL l l.length = l.map fun x => (true, x) := by unfold mixL; rw [List.take_length, List.drop_length]; simp
theorem mixL_length (l : List S65) (m : Nat) : (mixL l m).length = l.length := by unfold mixL; simp; omega
theorem mixL_get (l : List S65) (m : Nat) (h : m < l.length) (z : Bool × S65) : (mixL l m).getD m z = (false, rd_T65 l (m : Int)) := by
  have hm : ((l.take m).map fun x => (true, x)).length = m := by rw [List.length_map, List.length_take]; omega
  unfold mixL rd_T65
  rw [List.getD_eq_getElem?_getD, List.getElem?_append_right (by omega), hm, Nat.sub_self, List.getElem?_map, List.getElem?_drop, Nat.add_zero, List.getElem?_eq_getElem h, Int.toNat_natCast, List.getD_eq_getElem?_getD, List.getElem?_eq_getElem h]
  rfl
theorem mixL_set (l : List S65) (m : Nat) (h : m < l.length) : (mixL l m).set m (true, rd_T65 l (m : Int)) = mixL l (m + 1) := by
  have hm : ((l.take m).map fun x => (true, x)).length = m := by rw [List.length_map, List.length_take]; omega
  have hr : rd_T65 l (m : Int) = l[m] := by
    unfold rd_T65
    rw [Int.toNat_natCast, List.getD_eq_getElem?_getD, List.getElem?_eq_getElem h]
    rfl
  unfold mixL
  rw [List.set_append_right _ _ (by omega), hm, Nat.sub_self, List.drop_eq_getElem_cons h, List.map_cons, List.set_cons_zero, hr, List.take_add_one, List.getElem?_eq_getElem h, List.map_append, List.append_assoc]
  rfl
section
variable (nm : ByteArray) (AF : Option Addr) (cF : Nat) (fs : List ByteArray) (outs : Int) (AB : Option Addr) (cB : Nat) (bs : List Int) (AT : Option Addr) (cT : Nat) (ts : List S37)
set_option maxHeartbeats 16000000 in
set_option maxRecDepth 100000 in
theorem trees_Copy.calls (w : World) (hfs : Aside0 (Kd.C Kd.string w AF fs.length fs)) (hbs : Aside0 (Kd.C (Kd.int .i64) w AB bs.length bs)) (hts : Aside0 (Kd.C k37 w AT ts.length ts)) (SZC : Aside0 (CopySizes fs bs ts)) :
    Calls Tryd.prog 15 #[.agg #[.string nm, .slice AF fs.length cF, .int .i64 outs, .slice AB bs.length cB, .slice AT ts.length cT]] w fun e w' => ∃ v1 v3 v4, e = .returned (.agg #[.string nm, v1, .int .i64 outs, v3, v4]) ∧ Kd.R Kd.string 9 w' w.heap.size (fun _ => True) v1 fs ∧ Kd.R (Kd.int .i64) 2 w' w.heap.size (fun _ => True) v3 bs ∧ Kd.R k37 37 w' w.heap.size (fun _ => True) v4 ts ∧ Below w.heap.size w w' := by
  have HB := Aside0.mk (Below.refl w.heap.size w)
  have SZ := Aside0.mk (show fs.length * 16 ≤ 140737488355328 ∧ bs.length * 8 ≤ 140737488355328 ∧ ts.length * 32 ≤ 140737488355328 from ⟨SZC.out.fs, SZC.out.bs, SZC.out.ts⟩)
  have w2_ : (0 : Int) ≤ (ts.length : Int) := by omega
  have w3_ : (ts.length : Int) * 32 ≤ 281474976710656 := by have := SZ.out.2.2; omega
  have w4_ : (ts.length : Int).toNat = ts.length := by omega
  have w5_ : (ts.length : Int) ≤ 8796093022208 := by have := SZ.out.2.2; omega
  obtain ⟨i0, hi0, hzz⟩ := Option.map_eq_some_iff.1 infoTreeC
  simp only [Prod.mk.injEq] at hzz
  obtain ⟨hz0, hz1, hz2⟩ := hzz
  have mk : ∀ W, (Instr.makeSlice 24 (.int .i64 0) (.int .i64 (ts.length : Int))).run Tryd.prog W = .ok (.slice (some ⟨W.heap.size, 0, none⟩) 0 ts.length) (W.alloc (.cells (madeCells #[.int .i64 0, .slice none 0 0] (ts.length * 2)) 37)) := by
    intro W
    have h := run_make (P := Tryd.prog) W 24 37 i0 (.agg #[.int .i64 0, .slice none 0 0]) Tryd.underlying24 hi0 hz0 .i64 .i64 0 (ts.length : Int) (by omega) (by omega) (by rw [hz2]; omega) (by omega)
    rw [w4_, hz1] at h
    exact h
  clear hz0 hz1 hz2 hi0
  go_enter Tryd.func15, Tryd.ntmps15
  go_wp2_with (first | ((with_reducible refine gate_dst (N := 1) rfl ?_); refine box_event ?hg (N := 1) ?hd (cs := #[.string nm, .slice AF fs.length cF, .int .i64 outs, .slice AB bs.length cB, .slice AT ts.length cT]) (t := 26) ?hr ?_; (case hd => rfl); (case hg => rfl); (case hr => first | (go_simp; done) | (go_simp; rfl)); intro ge hg w1 hbox hb; have GE := Aside0.mk (show w.heap.size ≤ ge by rw [hg]; exact Nat.le_refl _); have n0_ := Aside0.mk (below_step (kB0 HB) hb); have Bge := Aside0.mk hbox; clear HB; have HB := n0_; clear n0_ hb hbox hg) | ((with_reducible refine gate_dst (N := 2) rfl ?_); refine box_event ?hg (N := 2) ?hd (cs := #[.string (⟨#[]⟩ : ByteArray), .slice none 0 0, .int .i64 0, .slice none 0 0, .slice none 0 0]) (t := 26) ?hr ?_; (case hd => rfl); (case hg => rfl); (case hr => first | (go_simp; done) | (go_simp; rfl)); intro gr hg w2 hbox hb; have GR := Aside0.mk (show w.heap.size ≤ gr by rw [hg]; exact below_size (kB0 HB)); have NE := Aside0.mk (show ge ≠ gr by rw [hg]; exact Nat.ne_of_lt (blk_lt Bge.out)); have mBge_ := Aside0.mk (blk_below Bge.out hb); have mHB_ := Aside0.mk (below_step (kB0 HB) hb); clear Bge HB; have Bge := mBge_; have HB := mHB_; clear mBge_ mHB_; have Bgr := Aside0.mk hbox; clear hb hbox hg; have he := blk5 (w := w2) Bge.out) | (go_at_call 37; refine (cloneStrC.calls AF fs.length cF fs _ ⟨Kd.C_below hfs.out (kB0 HB)⟩ (by have := SZ.out.1; omega)).mono ?_; rintro e w3 ⟨v1, rfl, R, hb⟩; obtain ⟨A1, c1, rfl, _, _⟩ := Kd.R_reads R; have HF := Aside0.mk (Kd.R_weak R (below_size HB.out)); have mBge_ := Aside0.mk (blk_below Bge.out hb); have mBgr_ := Aside0.mk (blk_below Bgr.out hb); have mHB_ := Aside0.mk (below_step (kB0 HB) hb); clear Bge Bgr HB; have Bge := mBge_; have Bgr := mBgr_; have HB := mHB_; clear mBge_ mBgr_ mHB_; clear R hb he; have he := blk5 (w := w3) Bge.out) | (go_at_call 21; have mHF_ := Aside0.mk (Kd.R_mono (Kd.R_far (p := ⟨ge, 1, none⟩) (Kd.R_types HF.out Bge.out (by decide)) (fun _ hk => hk.2) (.slice A1 fs.length c1)) (fun _ hk => trivial)); have mBgr_ := Aside0.mk (blk_far Bgr.out (p := ⟨ge, 1, none⟩) (Ne.symm NE.out) (.slice A1 fs.length c1)); have mBge_ := Aside0.mk (show (w3.setCell ⟨ge, 1, none⟩ (.slice A1 fs.length c1)).heap[ge]? = some (.cells #[.string nm, .slice A1 fs.length c1, .int .i64 outs, .slice AB bs.length cB, .slice AT ts.length cT] 26 (0, 0)) from blk_put Bge.out 1 (.slice A1 fs.length c1) rfl); have mHB_ := Aside0.mk (below_set (g := ge) (j := 1) (v := (.slice A1 fs.length c1)) HB.out GE.out); clear HF Bgr Bge HB; have HF := mHF_; have Bgr := mBgr_; have Bge := mBge_; have HB := mHB_; clear mHF_ mBgr_ mBge_ mHB_; refine (clone64.calls AB bs.length cB bs _ ⟨Kd.C_below hbs.out (kB0 HB)⟩ (by have := SZ.out.2.1; omega)).mono ?_; rintro e w4 ⟨v3, rfl, R, hb⟩; obtain ⟨A3, c3, rfl, _, _⟩ := Kd.R_reads R; have HBS := Aside0.mk (Kd.R_weak R (below_size HB.out)); have mHF_ := Aside0.mk (Kd.R_below HF.out hb); have mBge_ := Aside0.mk (blk_below Bge.out hb); have mBgr_ := Aside0.mk (blk_below Bgr.out hb); have mHB_ := Aside0.mk (below_step (kB0 HB) hb); clear HF Bge Bgr HB; have HF := mHF_; have Bge := mBge_; have Bgr := mBgr_; have HB := mHB_; clear mHF_ mBge_ mBgr_ mHB_; clear R hb he; have he := blk5 (w := w4) Bge.out; have Bge4 := Aside0.mk (show (w4.setCell ⟨ge, 3, none⟩ (.slice A3 bs.length c3)).heap[ge]? = some (.cells #[.string nm, .slice A1 fs.length c1, .int .i64 outs, .slice A3 bs.length c3, .slice AT ts.length cT] 26 (0, 0)) from blk_put Bge.out 3 (.slice A3 bs.length c3) rfl); have he8 := blk5 (w := (w4.setCell ⟨ge, 3, none⟩ (.slice A3 bs.length c3))) Bge4.out; have he9 := fun o => blk5 (w := (w4.setCell ⟨ge, 3, none⟩ (.slice A3 bs.length c3)).alloc o) (blk_alloc Bge4.out o)))
  have HB4 := Aside0.mk (below_set (g := ge) (j := 3) (v := (.slice A3 bs.length c3)) HB.out GE.out)
  have HF4 := Aside0.mk (Kd.R_setB HF.out Bge.out (by decide) 3 (.slice A3 bs.length c3))
  have HBS4 := Aside0.mk (Kd.R_setB HBS.out Bge.out (by decide) 3 (.slice A3 bs.length c3))
  have Bgr4 := Aside0.mk (blk_far Bgr.out (p := ⟨ge, 3, none⟩) (Ne.symm NE.out) (.slice A3 bs.length c3))
  have HO4 := Aside0.mk (show Kd.R k37 37 ((w4.setCell ⟨ge, 3, none⟩ (.slice A3 bs.length c3)).alloc (.cells (madeCells #[.int .i64 0, .slice none 0 0] (ts.length * 2)) 37 (0, 0))) w.heap.size (fun _ => True) (.slice (some ⟨w4.heap.size, 0, none⟩) 0 ts.length) [] by have h_ := Kd.R_roomD k37 (w4.setCell ⟨ge, 3, none⟩ (.slice A3 bs.length c3)) 37 (madeCells #[.int .i64 0, .slice none 0 0] (ts.length * 2)) ts.length w.heap.size (below_size HB4.out) (by rw [size_madeCells]; rfl) (by have := SZ.out.2.2; unfold maxLen; omega); rwa [World.size_setCell] at h_)
  clear he he8 he9 mk w2_ w3_ w4_ w5_ HB HF HBS Bgr Bge
  go_loopg [3, 22] (ts.length + 1) (fun kq v3 v22 w' => ∃ (z : Int) (n : Nat), v22 = .int .i64 z ∧ Aside0 (z = n) ∧ Aside0 (n ≤ ts.length) ∧ Aside0 (ts.length - n < kq) ∧ Aside0 (Kd.R k37 37 w' w.heap.size (fun _ => True) v3 (ts.take n)) ∧ Aside0 (Kd.R Kd.string 9 w' w.heap.size (fun _ => True) (.slice A1 fs.length c1) fs) ∧ Aside0 (Kd.R (Kd.int .i64) 2 w' w.heap.size (fun _ => True) (.slice A3 bs.length c3) bs) ∧ Aside0 (w'.heap[ge]? = some (.cells #[.string nm, .slice A1 fs.length c1, .int .i64 outs, .slice A3 bs.length c3, .slice AT ts.length cT] 26 (0, 0))) ∧ Aside0 (w'.heap[gr]? = some (.cells #[.string (⟨#[]⟩ : ByteArray), .slice none 0 0, .int .i64 0, .slice none 0 0, .slice none 0 0] 26 (0, 0))) ∧ Aside0 (Below w.heap.size w w'))
  case atStart => exact ⟨0, 0, rfl, ⟨rfl⟩, ⟨Nat.zero_le _⟩, ⟨by omega⟩, ⟨HO4.out⟩, ⟨Kd.R_alloc HF4.out _⟩, ⟨Kd.R_alloc HBS4.out _⟩, ⟨blk_alloc Bge4.out _⟩, ⟨blk_alloc Bgr4.out _⟩, ⟨below_alloc HB4.out _⟩⟩
  case round =>
    clear HO4 HF4 HBS4 Bge4 Bgr4 HB4
    obtain ⟨z, n, rfl, hz, hn, hk, HO, HF, HBS, Bge, Bgr, HB⟩ := hrel
    cases gk with
    | zero => exact absurd hk.out (by omega)
    | succ k1 =>
      have hzz := hz.out
      have hnn := hn.out
      have he := blk5 (w := wr) Bge.out
      obtain ⟨Ao, co, eo⟩ := Kd.R_slice HO.out
      subst eo
      have hlo : (ts.take n).length = n := by rw [List.length_take]; omega
      rw [hlo] at HO ⊢
      by_cases hend : n = ts.length
      · have cnd : decide (z < (ts.length : Int)) = false := decide_eq_false (by omega)
        subst hend
        rw [List.take_length] at HO
        have Be4 := blk_put Bge.out 4 (.slice Ao ts.length co) (cs' := #[.string nm, .slice A1 fs.length c1, .int .i64 outs, .slice A3 bs.length c3, .slice Ao ts.length co]) rfl
        have he8 := blk5 Be4
        have hr8 := blk5 (blk_far Bgr.out (p := ⟨ge, 4, none⟩) (Ne.symm NE.out) (.slice Ao ts.length co))
        clear hzz hnn hlo
        go_wp2
        refine bodyPost_ret (results_cell_row rfl _ _ gr 26 #[.string nm, .slice A1 fs.length c1, .int .i64 outs, .slice A3 bs.length c3, .slice Ao ts.length co] (0, 0) _ rfl (by (with_reducible repeat (first | refine blk_drewN ?_ _ | refine blk_drew ?_ | refine blk_alloc ?_ _)); refine blk_put (cs := #[.string nm, .slice A1 fs.length c1, .int .i64 outs, .slice A3 bs.length c3, .slice none 0 0]) ?_ 4 _ rfl; (with_reducible repeat (first | refine blk_drewN ?_ _ | refine blk_drew ?_ | refine blk_alloc ?_ _)); refine blk_put (cs := #[.string nm, .slice A1 fs.length c1, .int .i64 outs, .slice none 0 0, .slice none 0 0]) ?_ 3 _ rfl; (with_reducible repeat (first | refine blk_drewN ?_ _ | refine blk_drew ?_ | refine blk_alloc ?_ _)); refine blk_put (cs := #[.string nm, .slice A1 fs.length c1, .int .i64 0, .slice none 0 0, .slice none 0 0]) ?_ 2 _ rfl; (with_reducible repeat (first | refine blk_drewN ?_ _ | refine blk_drew ?_ | refine blk_alloc ?_ _)); refine blk_put (cs := #[.string nm, .slice none 0 0, .int .i64 0, .slice none 0 0, .slice none 0 0]) ?_ 1 _ rfl; (with_reducible repeat (first | refine blk_drewN ?_ _ | refine blk_drew ?_ | refine blk_alloc ?_ _)); refine blk_put (cs := #[.string (⟨#[]⟩ : ByteArray), .slice none 0 0, .int .i64 0, .slice none 0 0, .slice none 0 0]) ?_ 0 _ rfl; (with_reducible repeat (first | refine blk_drewN ?_ _ | refine blk_drew ?_ | refine blk_alloc ?_ _)); refine blk_far ?_ (Ne.symm NE.out) _; (with_reducible repeat (first | refine blk_drewN ?_ _ | refine blk_drew ?_ | refine blk_alloc ?_ _)); exact Bgr.out) Tryd.underlying26 rfl (by kernel_rfl)) rfl ?_
        exact ⟨_, _, _, rfl, Kd.R_six HF.out Bge.out Bgr.out (by decide) _ _ _ _ _ _, Kd.R_six HBS.out Bge.out Bgr.out (by decide) _ _ _ _ _ _, Kd.R_six HO.out Bge.out Bgr.out (by decide) _ _ _ _ _ _, below_set (below_set (below_set (below_set (below_set (below_set HB.out GE.out) GR.out) GR.out) GR.out) GR.out) GR.out⟩
      · have cnd : decide (z < (ts.length : Int)) = true := decide_eq_true (by omega)
        have p1 : 0 ≤ z := by omega
        have p2 : z < (ts.length : Int) := by omega
        have hlt : n < ts.length := by omega
        obtain ⟨ad, A2, c2, rfl, e0, e1, l2, g2⟩ := at_T37 hts.out z p1 p2
        obtain ⟨y, hy⟩ : ∃ y, y = rd_T37 ts z := ⟨_, rfl⟩
        rw [← hy] at e0 e1 l2 g2
        have hyn : ts[n]? = some y := by
          rw [hy, hzz]
          unfold rd_T37
          rw [Int.toNat_natCast, List.getD_eq_getElem?_getD, List.getElem?_eq_getElem hlt]
          rfl
        have hst : ts.take n ++ [y] = ts.take (n + 1) := by rw [List.take_add_one, hyn]; rfl
        obtain ⟨sy1, sy2⟩ := SZC.out.nodes y (List.mem_of_getElem? hyn)
        have SY := Aside0.mk sy1
        have SX := Aside0.mk sy2
        have ST := Aside0.mk hst
        have G2 := Aside0.mk g2
        have HLT := Aside0.mk hlt
        have XN := Aside0.mk hzz
        replace e0 := (HB.out.cell (World.block_lt_of_cell? w _ e0)).trans e0
        replace e1 := (HB.out.cell (World.block_lt_of_cell? w _ e1)).trans e1
        replace p1 := eq_true p1
        replace p2 := eq_true p2
        have HL := Aside0.mk hlo
        clear hzz hnn hend hlt hy g2 l2 hyn hst sy1 sy2 hlo
        go_wp2_with (first | ((with_reducible refine gate_dst (N := 5) rfl ?_); refine box_event ?hg (N := 5) ?hd (cs := #[.int .i64 0, .slice none 0 0]) (t := 37) ?hr ?_; (case hd => rfl); (case hg => rfl); (case hr => first | (go_simp; done) | (go_simp; rfl)); intro gt hg w5 hbox hb; have GT := Aside0.mk (show w.heap.size ≤ gt by rw [hg]; exact below_size (kB0 HB)); have NG := Aside0.mk (show ge ≠ gt ∧ gr ≠ gt by rw [hg]; exact ⟨Nat.ne_of_lt (blk_lt Bge.out), Nat.ne_of_lt (blk_lt Bgr.out)⟩); have mHO_ := Aside0.mk (Kd.R_below (Kd.R_elderB HO.out gt (Nat.le_of_eq hg.symm)) hb); have mHF_ := Aside0.mk (Kd.R_below HF.out hb); have mHBS_ := Aside0.mk (Kd.R_below HBS.out hb); have mBge_ := Aside0.mk (blk_below Bge.out hb); have mBgr_ := Aside0.mk (blk_below Bgr.out hb); have mHB_ := Aside0.mk (below_step (kB0 HB) hb); clear HO HF HBS Bge Bgr HB; have HO := mHO_; have HF := mHF_; have HBS := mHBS_; have Bge := mBge_; have Bgr := mBgr_; have HB := mHB_; clear mHO_ mHF_ mHBS_ mBge_ mBgr_ mHB_; have Bgt := Aside0.mk hbox; clear hb hbox hg he e0 e1; have ht := blk2 (w := w5) Bgt.out) | (go_at_call 38; have Bt1 := (show (w5.setCell ⟨gt, 0, none⟩ (.int .i64 y.f0)).heap[gt]? = some (.cells #[.int .i64 y.f0, .slice none 0 0] 37 (0, 0)) from blk_put Bgt.out 0 (.int .i64 y.f0) rfl); have mHO_ := Aside0.mk (Kd.R_far (Kd.R_far HO.out (p := ⟨gt, 0, none⟩) (fun _ h => h.2) (.int .i64 y.f0)) (p := ⟨gt, 1, none⟩) (fun _ h => h.2) (.slice A2 y.f1.length c2)); have mHF_ := Aside0.mk (Kd.R_setB (Kd.R_setB HF.out Bgt.out (by decide) 0 (.int .i64 y.f0)) Bt1 (by decide) 1 (.slice A2 y.f1.length c2)); have mHBS_ := Aside0.mk (Kd.R_setB (Kd.R_setB HBS.out Bgt.out (by decide) 0 (.int .i64 y.f0)) Bt1 (by decide) 1 (.slice A2 y.f1.length c2)); have mBge_ := Aside0.mk (blk_far (blk_far Bge.out (p := ⟨gt, 0, none⟩) NG.out.1 (.int .i64 y.f0)) (p := ⟨gt, 1, none⟩) NG.out.1 (.slice A2 y.f1.length c2)); have mBgr_ := Aside0.mk (blk_far (blk_far Bgr.out (p := ⟨gt, 0, none⟩) NG.out.2 (.int .i64 y.f0)) (p := ⟨gt, 1, none⟩) NG.out.2 (.slice A2 y.f1.length c2)); have mHB_ := Aside0.mk (below_set (g := gt) (j := 1) (v := (.slice A2 y.f1.length c2)) (below_set (g := gt) (j := 0) (v := .int .i64 y.f0) HB.out GT.out) GT.out); have mBgt_ := Aside0.mk (show ((w5.setCell ⟨gt, 0, none⟩ (.int .i64 y.f0)).setCell ⟨gt, 1, none⟩ (.slice A2 y.f1.length c2)).heap[gt]? = some (.cells #[.int .i64 y.f0, (.slice A2 y.f1.length c2)] 37 (0, 0)) from blk_put Bt1 1 (.slice A2 y.f1.length c2) rfl); clear HO HF HBS Bge Bgr HB Bgt; have HO := mHO_; have HF := mHF_; have HBS := mHBS_; have Bge := mBge_; have Bgr := mBgr_; have HB := mHB_; have Bgt := mBgt_; clear mHO_ mHF_ mHBS_ mBge_ mBgr_ mHB_ mBgt_; clear Bt1; refine (cloneNodeC.calls A2 y.f1.length c2 y.f1 w _ ⟨ReadsRow.imp_ (show ReadsRow (k65.K w) 8 w A2 y.f1.length y.f1 from G2.out) HB.out (fun _ _ h => h)⟩ SY.out).mono ?_; rintro e w7 ⟨v4, rfl, R, hb⟩; obtain ⟨A4, c4, e4_, _, _⟩ := Kd.R_reads R; rw [List.length_map] at e4_; subst e4_; rw [← mixL_zero] at R; have HN := Aside0.mk (Kd.R_lower R (below_size HB.out)); have mHO_ := Aside0.mk (Kd.R_below (ok := fun k => k ≠ gt ∧ some k ≠ (Value.slice A4 y.f1.length c4).ownBlock) (Kd.R_mono (Kd.R_bound HO.out) (fun k hk => ⟨hk.1.2, fun e_ => by have h1_ := Kd.R_base R k e_.symm; have h2_ := hk.2.2.1; omega⟩)) hb); have mHF_ := Aside0.mk (Kd.R_below HF.out hb); have mHBS_ := Aside0.mk (Kd.R_below HBS.out hb); have mBge_ := Aside0.mk (blk_below Bge.out hb); have mBgr_ := Aside0.mk (blk_below Bgr.out hb); have mBgt_ := Aside0.mk (blk_below Bgt.out hb); have mHB_ := Aside0.mk (below_step (kB0 HB) hb); clear HO HF HBS Bge Bgr Bgt HB; have HO := mHO_; have HF := mHF_; have HBS := mHBS_; have Bge := mBge_; have Bgr := mBgr_; have Bgt := mBgt_; have HB := mHB_; clear mHO_ mHF_ mHBS_ mBge_ mBgr_ mBgt_ mHB_; clear R hb ht; have ht := blk2 (w := w7) Bgt.out))
        have HN8 := Aside0.mk (Kd.R_setB HN.out Bgt.out (show ∀ q, q ∈ 65 :: k65.E → q ≠ 37 by decide) 1 (.slice A4 y.f1.length c4))
        have HO8 := Aside0.mk (Kd.R_far HO.out (p := ⟨gt, 1, none⟩) (fun _ h => h.1) (.slice A4 y.f1.length c4))
        have HF8 := Aside0.mk (Kd.R_setB HF.out Bgt.out (by decide) 1 (.slice A4 y.f1.length c4))
        have HBS8 := Aside0.mk (Kd.R_setB HBS.out Bgt.out (by decide) 1 (.slice A4 y.f1.length c4))
        have Bge8 := Aside0.mk (blk_far Bge.out (p := ⟨gt, 1, none⟩) NG.out.1 (.slice A4 y.f1.length c4))
        have Bgr8 := Aside0.mk (blk_far Bgr.out (p := ⟨gt, 1, none⟩) NG.out.2 (.slice A4 y.f1.length c4))
        have Bgt8 := Aside0.mk (show (w7.setCell ⟨gt, 1, none⟩ (.slice A4 y.f1.length c4)).heap[gt]? = some (.cells #[.int .i64 y.f0, (.slice A4 y.f1.length c4)] 37 (0, 0)) from blk_put Bgt.out 1 (.slice A4 y.f1.length c4) rfl)
        have HB8 := Aside0.mk (below_set (g := gt) (j := 1) (v := (.slice A4 y.f1.length c4)) HB.out GT.out)
        clear ht HN HO HF HBS Bge Bgr Bgt HB
        go_loopg [33] (y.f1.length + 1) (fun kq v33 w' => ∃ (z : Int) (m : Nat), v33 = .int .i64 z ∧ Aside0 (z = m) ∧ Aside0 (m ≤ y.f1.length) ∧ Aside0 (y.f1.length - m < kq) ∧ Aside0 (Kd.R (Kd.half w k65) 65 w' w.heap.size (fun _ => True) (.slice A4 y.f1.length c4) (mixL y.f1 m)) ∧ Aside0 (Kd.R k37 37 w' w.heap.size (fun k => k ≠ gt ∧ some k ≠ ((.slice A4 y.f1.length c4) : Value).ownBlock) (.slice Ao n co) (ts.take n)) ∧ Aside0 (Kd.R Kd.string 9 w' w.heap.size (fun _ => True) (.slice A1 fs.length c1) fs) ∧ Aside0 (Kd.R (Kd.int .i64) 2 w' w.heap.size (fun _ => True) (.slice A3 bs.length c3) bs) ∧ Aside0 (w'.heap[ge]? = some (.cells #[.string nm, .slice A1 fs.length c1, .int .i64 outs, .slice A3 bs.length c3, .slice (some ad) ts.length cT] 26 (0, 0))) ∧ Aside0 (w'.heap[gr]? = some (.cells #[.string (⟨#[]⟩ : ByteArray), .slice none 0 0, .int .i64 0, .slice none 0 0, .slice none 0 0] 26 (0, 0))) ∧ Aside0 (w'.heap[gt]? = some (.cells #[.int .i64 y.f0, (.slice A4 y.f1.length c4)] 37 (0, 0))) ∧ Aside0 (Below w.heap.size w w'))
        case atStart => exact ⟨0, 0, rfl, ⟨rfl⟩, ⟨Nat.zero_le _⟩, ⟨by omega⟩, HN8, HO8, HF8, HBS8, Bge8, Bgr8, Bgt8, HB8⟩
        case round =>
          clear HN8 HO8 HF8 HBS8 Bge8 Bgr8 Bgt8 HB8
          obtain ⟨z2, m, rfl, hz2, hm, hk2, HN, HO, HF, HBS, Bge, Bgr, Bgt, HB⟩ := hrel
          cases gk with
          | zero => exact absurd hk2.out (by omega)
          | succ k2 =>
            have hzz := hz2.out
            have hmm := hm.out
            have ht := blk2 (w := wr) Bgt.out
            by_cases hend : m = y.f1.length
            · have cnd : decide (z2 < (y.f1.length : Int)) = false := decide_eq_false (by omega)
              have HT := Aside0.mk (Kd.R_true (by have h_ := HN.out; rw [hend, mixL_all] at h_; exact h_))
              clear hzz hmm HN hend
              go_wp2_with (first | ((with_reducible refine gate_builtin (b := .append) (xs := #[.tmp 49, .tmp 51]) rfl ?_); at_builtin; refine Kd.R_append k37 (w0 := w) w.heap.size rfl (.tmp 49) (.tmp 51) 24 37 (.agg #[.int .i64 0, .slice none 0 0]) 32 rfl Tryd.underlying24 infoTreeC rfl (by decide) (by omega) (.slice Ao n co) (ts.take n) y [.int .i64 y.f0, (.slice A4 y.f1.length c4)] (fun k => k ≠ gt) (fun k => k ≠ gt ∧ some k ≠ (Value.slice Ao n co).ownBlock) rfl rfl ?aP (fun _ hk => hk) ?aF ?aO ?aB ?aS ?aL ?_; (case aP => exact k37_mkM _ _ _ y (Kd.R_mono (Kd.R_types (Kd.R_apart' HT.out (Kd.R_typed HO.out) (by decide)) Bgt.out (by decide)) (fun k_ hk => ⟨hk.2, hk.1.2⟩))); (case aB => exact (kB0 HB)); (case aF => exact (fun k_ hk => Kd.freshB Bgt.out k_ hk)); (case aO => exact (Kd.R_mono HO.out (fun _ h => h.1))); (case aS => exact (below_size (kB0 HB))); (case aL => have := HL.out; have := HLT.out; have := SZ.out.2.2; omega); intro v52 w9 ho hb hg hat; rw [ST.out] at ho; have mHF_ := Aside0.mk (Kd.R_over' HF.out (Kd.R_typed HO.out) (by decide) hg); have mHBS_ := Aside0.mk (Kd.R_over' HBS.out (Kd.R_typed HO.out) (by decide) hg); have mBge_ := Aside0.mk (blk_grown Bge.out hg (Kd.R_ne HO.out Bge.out (by decide))); have mBgr_ := Aside0.mk (blk_grown Bgr.out hg (Kd.R_ne HO.out Bgr.out (by decide))); have mHO_ := Aside0.mk (Kd.R_mono ho (fun _ _ => trivial)); clear HF HBS Bge Bgr HO; have HF := mHF_; have HBS := mHBS_; have Bge := mBge_; have Bgr := mBgr_; have HO := mHO_; clear mHF_ mHBS_ mBge_ mBgr_ mHO_; clear HB ht; have HB := Aside0.mk hb; clear ho hb hg hat))
              go_roundg k1
              case measure => have := hk.out; have := HLT.out; omega
              case rel => exact ⟨_, n + 1, rfl, ⟨by have := XN.out; have := HLT.out; have := SZ.out; unfold wrap64; omega⟩, ⟨HLT.out⟩, ⟨by have := hk.out; have := HLT.out; omega⟩, HO, HF, HBS, Bge, Bgr, HB⟩
            · have cnd : decide (z2 < (y.f1.length : Int)) = true := decide_eq_true (by omega)
              have hlt2 : m < y.f1.length := by omega
              have p1 : 0 ≤ z2 := by omega
              have p2 : z2 < (y.f1.length : Int) := by omega
              obtain ⟨g, cap, eg, gb, gl, _⟩ := Kd.R_form HN.out (by rw [mixL_length]; omega)
              injection eg with eA_ e2_ eC_
              subst eA_
              subst eC_
              clear e2_
              obtain ⟨c, hcl, hM, hcc, hfz⟩ := Kd.R_elem HN.out (true, rd_T65 y.f1 0) z2 p1 p2
              have hzm : z2.toNat = m := by omega
              rw [hzm, mixL_get _ _ hlt2] at hM
              obtain ⟨x, hx⟩ : ∃ x, x = rd_T65 y.f1 (m : Int) := ⟨_, rfl⟩
              rw [← hx] at hM
              obtain ⟨A5, c5, rfl, l5, g5⟩ := k65_open (show k65.K w x c from hM)
              have hmem : x ∈ y.f1 := by
                rw [hx]
                unfold rd_T65
                rw [Int.toNat_natCast, List.getD_eq_getElem?_getD, List.getElem?_eq_getElem hlt2]
                exact List.getElem_mem hlt2
              have SX1 := Aside0.mk (SX.out x hmem)
              have G5 := Aside0.mk g5
              have ex : wr.cell? ⟨g, z2.toNat * 8 + 4, none⟩ = some (.slice A5 x.f4.length c5) := hcc 4 _ rfl
              have fx : wr.frozen? ⟨g, z2.toNat * 8 + 4, none⟩ = false := hfz 4
              have HCC := Aside0.mk hcc
              have GG := Aside0.mk (⟨gb, gl⟩ : w.heap.size ≤ g ∧ g < wr.heap.size)
              have XX := Aside0.mk (show (mixL y.f1 m).set z2.toNat (true, x) = mixL y.f1 (m + 1) by rw [hzm, hx]; exact mixL_set _ _ hlt2)
              have HLT2 := Aside0.mk hlt2
              have XN2 := Aside0.mk hzz
              have PP := Aside0.mk (⟨p1, p2⟩ : 0 ≤ z2 ∧ z2 < (y.f1.length : Int))
              replace p1 := eq_true p1
              replace p2 := eq_true p2
              clear hzz hmm hend hlt2 hx hmem g5 gb gl hcc hfz hzm hcl hM l5
              go_wp2
              refine start_ (n := 13) (S := fun w' => w'.cell? ⟨gt, 1, none⟩ = some (.slice (some ⟨g, 0, none⟩) y.f1.length c4) ∧ w'.cell? ⟨g, z2.toNat * 8 + 4, none⟩ = some (.slice A5 x.f4.length c5)) (ds := [12]) #[false, false, false, false, false, false, false, false, false, false, false, false, false] (by kernel_rfl) rfl rfl ⟨((blk_cell (blk_drew Bgt.out) 1).trans rfl), ex⟩ (fun hHeld => ?_)
              refine pure_ (i := 0) (N := some 36) (v := ?_) (a' := ?_) #[true, false, false, false, false, false, false, false, false, false, false, false, false] rfl rfl (by kernel_rfl) (fun _ _ _ h => h) (Or.inl ⟨by rfl, ?_⟩) ?_ ?_
              rotate_left
              · intro w'
                go_simp
                with_reducible rfl
              rotate_left
              · simp only [Act.put, List.setIfInBounds_toArray, List.set_cons_zero, List.set_cons_succ, i64_w, i32_w]
                rfl
              refine pure_ (i := 2) (N := some 38) (v := ?_) (a' := ?_) #[true, false, true, false, false, false, false, false, false, false, false, false, false] rfl rfl (by kernel_rfl) (fun _ _ _ h => h) (Or.inl ⟨by rfl, ?_⟩) ?_ ?_
              rotate_left
              · intro w'
                go_simp
                with_reducible rfl
              rotate_left
              · simp only [Act.put, List.setIfInBounds_toArray, List.set_cons_zero, List.set_cons_succ, i64_w, i32_w]
                rfl
              refine pure_ (i := 3) (N := some 39) (v := ?_) (a' := ?_) #[true, false, true, true, false, false, false, false, false, false, false, false, false] rfl rfl (by kernel_rfl) (fun _ _ _ h => h) (Or.inl ⟨by rfl, ?_⟩) ?_ ?_
              rotate_left
              · intro w'
                go_simp
                with_reducible rfl
              rotate_left
              · simp only [Act.put, List.setIfInBounds_toArray, List.set_cons_zero, List.set_cons_succ, i64_w, i32_w]
                rfl
              refine pure_ (i := 5) (N := some 41) (v := ?_) (a' := ?_) #[true, false, true, true, false, true, false, false, false, false, false, false, false] rfl rfl (by kernel_rfl) (fun _ _ _ h => h) (Or.inl ⟨by rfl, ?_⟩) ?_ ?_
              rotate_left
              · intro w'
                go_simp
                with_reducible rfl
              rotate_left
              · simp only [Act.put, List.setIfInBounds_toArray, List.set_cons_zero, List.set_cons_succ, i64_w, i32_w]
                rfl
              refine take_ (i := 1) (N := some 37) (v := ?_) (a' := ?_) #[true, true, true, true, false, true, false, false, false, false, false, false, false] rfl rfl (by kernel_rfl) (fun _ _ _ h => h) (Or.inl ⟨by rfl, ?_⟩) hHeld ?_ ?_
              rotate_left
              · rintro w' ⟨s0, s1⟩
                go_simp
                with_reducible rfl
              rotate_left
              · simp only [Act.put, List.setIfInBounds_toArray, List.set_cons_zero, List.set_cons_succ, i64_w, i32_w]
                rfl
              refine take_ (i := 4) (N := some 40) (v := ?_) (a' := ?_) #[true, true, true, true, true, true, false, false, false, false, false, false, false] rfl rfl (by kernel_rfl) (fun _ _ _ h => h) (Or.inl ⟨by rfl, ?_⟩) hHeld ?_ ?_
              rotate_left
              · rintro w' ⟨s0, s1⟩
                go_simp
                with_reducible rfl
              rotate_left
              · simp only [Act.put, List.setIfInBounds_toArray, List.set_cons_zero, List.set_cons_succ, i64_w, i32_w]
                rfl
              refine pure_ (i := 6) (N := some 42) (v := ?_) (a' := ?_) #[true, true, true, true, true, true, true, false, false, false, false, false, false] rfl rfl (by kernel_rfl) (fun _ _ _ h => h) (Or.inl ⟨by rfl, ?_⟩) ?_ ?_
              rotate_left
              · intro w'
                go_simp
                with_reducible rfl
              rotate_left
              · simp only [Act.put, List.setIfInBounds_toArray, List.set_cons_zero, List.set_cons_succ, i64_w, i32_w]
                rfl
              refine pure_ (i := 7) (N := some 43) (v := ?_) (a' := ?_) #[true, true, true, true, true, true, true, true, false, false, false, false, false] rfl rfl (by kernel_rfl) (fun _ _ _ h => h) (Or.inl ⟨by rfl, ?_⟩) ?_ ?_
              rotate_left
              · intro w'
                go_simp
                with_reducible rfl
              rotate_left
              · simp only [Act.put, List.setIfInBounds_toArray, List.set_cons_zero, List.set_cons_succ, i64_w, i32_w]
                rfl
              refine take_ (i := 8) (N := some 44) (v := ?_) (a' := ?_) #[true, true, true, true, true, true, true, true, true, false, false, false, false] rfl rfl (by kernel_rfl) (fun _ _ _ h => h) (Or.inl ⟨by rfl, ?_⟩) hHeld ?_ ?_
              rotate_left
              · rintro w' ⟨s0, s1⟩
                go_simp
                with_reducible rfl
              rotate_left
              · simp only [Act.put, List.setIfInBounds_toArray, List.set_cons_zero, List.set_cons_succ, i64_w, i32_w]
                rfl
              refine one_ (i := 9) (N := some 45) #[true, true, true, true, true, true, true, true, true, true, false, false, false] rfl rfl (by kernel_rfl) (by decide) (fun K hK => ?_)
              refine goes_ Tryd.func39 (by kernel_rfl) rfl #[.slice A5 x.f4.length c5] (by rfl) rfl rfl (by simp only [List.map_toArray, List.map_cons, List.map_nil]; rfl) ?_
              with_reducible refine (cloneIntC.calls A5 x.f4.length c5 x.f4 _ ⟨Kd.C_below G5.out (kB0 HB)⟩ SX1.out).mono ?_
              rintro e w8 ⟨v6, rfl, R, hb⟩
              refine ⟨_, rfl, ?_⟩
              obtain ⟨A6, c6, rfl, _, _⟩ := Kd.R_reads R
              have q0 := (hb.cell (World.block_lt_of_cell? _ _ hHeld.1)).trans hHeld.1
              have q1 := (hb.cell (World.block_lt_of_cell? _ _ hHeld.2)).trans hHeld.2
              have fz := (hb.frozen (p := ⟨g, z2.toNat * 8 + 4, none⟩) GG.out.2).trans fx
              have R6 := Aside0.mk (Kd.R_lower (Kd.R_mono (ok' := fun k => k ≠ g) (Kd.R_bound R) (fun k hk => by have h1_ := hk.2.1; have h2_ := GG.out.2; exact fun e_ => by subst e_; exact absurd h2_ (Nat.not_lt.2 h1_))) (below_size (kB0 HB)))
              have hcc8 := Aside0.mk (fun j u h => (hb.cell (p := ⟨g, z2.toNat * 8 + j, none⟩) GG.out.2).trans (HCC.out j u h))
              have mHN_ := Aside0.mk (Kd.R_below (kR HN) hb); have mHO_ := Aside0.mk (Kd.R_below (kR HO) hb); have mHF_ := Aside0.mk (Kd.R_below (kR HF) hb); have mHBS_ := Aside0.mk (Kd.R_below (kR HBS) hb); have mBge_ := Aside0.mk (blk_below (kb Bge) hb); have mBgr_ := Aside0.mk (blk_below (kb Bgr) hb); have mBgt_ := Aside0.mk (blk_below (kb Bgt) hb); have mHB_ := Aside0.mk (below_step (kB0 HB) hb); clear HN HO HF HBS Bge Bgr Bgt HB; have HN := mHN_; have HO := mHO_; have HF := mHF_; have HBS := mHBS_; have Bge := mBge_; have Bgr := mBgr_; have Bgt := mBgt_; have HB := mHB_; clear mHN_ mHO_ mHF_ mHBS_ mBge_ mBgr_ mBgt_ mHB_
              clear R hb hHeld HCC
              have HCC := hcc8
              clear hcc8
              refine hK.out _ _ ⟨q0, q1⟩ (fun hHeld => ?_)
              clear hK K
              refine norm_ (a' := ?_) ?_ ?_
              rotate_left
              · show Act.put _ (some 45) _ = _
                simp only [Act.put, List.setIfInBounds_toArray, List.set_cons_zero, List.set_cons_succ, i64_w, i32_w]
                rfl
              refine pure_ (i := 10) (N := some 46) (v := ?_) (a' := ?_) #[true, true, true, true, true, true, true, true, true, true, true, false, false] rfl rfl (by kernel_rfl) (fun _ _ _ h => h) (Or.inl ⟨by rfl, ?_⟩) ?_ ?_
              rotate_left
              · intro w'
                go_simp
                with_reducible rfl
              rotate_left
              · simp only [Act.put, List.setIfInBounds_toArray, List.set_cons_zero, List.set_cons_succ, i64_w, i32_w]
                rfl
              refine pure_ (i := 11) (N := some 47) (v := ?_) (a' := ?_) #[true, true, true, true, true, true, true, true, true, true, true, true, false] rfl rfl (by kernel_rfl) (fun _ _ _ h => h) (Or.inl ⟨by rfl, ?_⟩) ?_ ?_
              rotate_left
              · intro w'
                go_simp
                with_reducible rfl
              rotate_left
              · simp only [Act.put, List.setIfInBounds_toArray, List.set_cons_zero, List.set_cons_succ, i64_w, i32_w]
                rfl
              refine last_ (i := 12) (N := none) #[true, true, true, true, true, true, true, true, true, true, true, true, true] rfl rfl (by kernel_rfl) (by decide) (fun K hK => ?_)
              refine skip_ (w1 := ?_) (by rfl) rfl ?_ ?_
              rotate_left
              · go_simp
                rfl
              refine hK.out _ _ ?_
              clear hK K
              refine done_ (by kernel_rfl) ?_

              have HNC := Aside0.mk (Kd.R_seg (c := [.int .u8 x.f0, .int .i64 x.f1, .int .i64 x.f2, .float .f64 x.f3, .slice A5 x.f4.length c5, .int .u8 x.f5, .int .i64 x.f6, .int .i64 x.f7]) (seg := [(.slice A6 x.f4.length c6)]) (j := 4) (x' := (true, x)) (okp := fun k => k ≠ g) HN.out z2 PP.out.1 PP.out.2 rfl HCC.out (by show 4 + 1 ≤ 8; omega) (show k65.M w8 w.heap.size (fun k => k ≠ g) x [.int .u8 x.f0, .int .i64 x.f1, .int .i64 x.f2, .float .f64 x.f3, (.slice A6 x.f4.length c6), .int .u8 x.f5, .int .i64 x.f6, .int .i64 x.f7] from k65_mkM w8 w.heap.size _ x R6.out) (fun k hk => ⟨trivial, hk⟩))
              rw [XX.out] at HNC
              have HNR := Aside0.mk (show Kd.R (Kd.half w k65) 65 (w8.setCell ⟨g, z2.toNat * 8 + 4, none⟩ (.slice A6 x.f4.length c6)) w.heap.size (fun _ => True) (.slice (some ⟨g, 0, none⟩) y.f1.length c4) (mixL y.f1 (m + 1)) from HNC.out.1)
              have HNG := Aside0.mk (show w8.grownBy (w8.setCell ⟨g, z2.toNat * 8 + 4, none⟩ (.slice A6 x.f4.length c6)) (some g) from HNC.out.2)
              have HO1 := Aside0.mk (Kd.R_grown HO.out HNG.out (fun k h => h.2))
              have HF1 := Aside0.mk (Kd.R_over' (v := .slice (some ⟨g, 0, none⟩) y.f1.length c4) HF.out (Kd.R_typed HN.out) (by decide) HNG.out)
              have HBS1 := Aside0.mk (Kd.R_over' (v := .slice (some ⟨g, 0, none⟩) y.f1.length c4) HBS.out (Kd.R_typed HN.out) (by decide) HNG.out)
              have Bge1 := Aside0.mk (blk_grown Bge.out HNG.out (Kd.R_ne HN.out Bge.out (by decide)))
              have Bgr1 := Aside0.mk (blk_grown Bgr.out HNG.out (Kd.R_ne HN.out Bgr.out (by decide)))
              have Bgt1 := Aside0.mk (blk_grown Bgt.out HNG.out (Kd.R_ne HN.out Bgt.out (by decide)))
              have HB1 := Aside0.mk (below_set (g := g) (j := z2.toNat * 8 + 4) (v := (.slice A6 x.f4.length c6)) HB.out GG.out.1)
              clear HNC HN HO HF HBS Bge Bgr Bgt HB
              go_wp2
              go_roundg k2
              case measure => have := hk2.out; have := HLT2.out; omega
              case rel => exact ⟨_, m + 1, rfl, ⟨by have := XN2.out; have := HLT2.out; have := SY.out; unfold wrap64; omega⟩, ⟨HLT2.out⟩, ⟨by have := hk2.out; have := HLT2.out; omega⟩, HNR, HO1, HF1, HBS1, Bge1, Bgr1, Bgt1, HB1⟩
end
end Go.Proofs.YtpeiafamkajedaaDoor.FAll
