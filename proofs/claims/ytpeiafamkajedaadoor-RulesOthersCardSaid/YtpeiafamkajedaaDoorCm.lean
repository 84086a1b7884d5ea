/-
  trees.Model: the same ensemble, each tree's nodes in the order of 'all', of its own in all its depth.
-/
import Derived.Test.YtpeiafamkajedaaDoorCn
namespace Go.Proofs.YtpeiafamkajedaaDoor.FAll
open Go.RowKit Go.Shelf Go.Proofs.YtpeiafamkajedaaDoorW.PrintWords Go.Proofs.YtpeiafamkajedaaDoorW.PrintLast Go.Proofs.YtpeiafamkajedaaDoorW.PrintMore BTree
attribute [local go_sem] fstore_walk
set_option linter.unusedVariables false
set_option linter.unusedSimpArgs false
section
variable {w : World} {g : Nat}
theorem five_far {k : Nat} (h : k ≠ g) (v0 v1 v2 v3 v4 : Value) : (((((w.setCell ⟨g, 0, none⟩ v0).setCell ⟨g, 1, none⟩ v1).setCell ⟨g, 2, none⟩ v2).setCell ⟨g, 3, none⟩ v3).setCell ⟨g, 4, none⟩ v4).heap[k]? = w.heap[k]? := by
  rw [Below.heap_setCell _ _ _ k h, Below.heap_setCell _ _ _ k h, Below.heap_setCell _ _ _ k h, Below.heap_setCell _ _ _ k h, Below.heap_setCell _ _ _ k h]
theorem five_blk {a0 a1 a2 a3 a4 : Value} {t : TypeId} (h : w.heap[g]? = some (.cells #[a0, a1, a2, a3, a4] t (0, 0))) (v0 v1 v2 v3 v4 : Value) : (((((w.setCell ⟨g, 0, none⟩ v0).setCell ⟨g, 1, none⟩ v1).setCell ⟨g, 2, none⟩ v2).setCell ⟨g, 3, none⟩ v3).setCell ⟨g, 4, none⟩ v4).heap[g]? = some (.cells #[v0, v1, v2, v3, v4] t (0, 0)) := by
  have h0 := blk_put (cs' := #[v0, a1, a2, a3, a4]) h 0 v0 rfl
  have h1 := blk_put (cs' := #[v0, v1, a2, a3, a4]) h0 1 v1 rfl
  have h2 := blk_put (cs' := #[v0, v1, v2, a3, a4]) h1 2 v2 rfl
  have h3 := blk_put (cs' := #[v0, v1, v2, v3, a4]) h2 3 v3 rfl
  exact blk_put h3 4 v4 rfl
theorem R_five {α : Type} {d : Kd α} {e b : Nat} {ok : Nat → Prop} {v : Value} {xs : List α} {t : Nat} {cs : Array Value} (h : d.R e w b ok v xs) (hg : w.heap[g]? = some (.cells cs t (0, 0))) (ht : ∀ q, q ∈ e :: d.E → q ≠ t) (v0 v1 v2 v3 v4 : Value) : d.R e (((((w.setCell ⟨g, 0, none⟩ v0).setCell ⟨g, 1, none⟩ v1).setCell ⟨g, 2, none⟩ v2).setCell ⟨g, 3, none⟩ v3).setCell ⟨g, 4, none⟩ v4) b ok v xs :=
  Kd.R_mono (Kd.R_move (Kd.R_types h hg ht) (fun k hk => five_far hk.2 v0 v1 v2 v3 v4)) (fun _ hk => hk.1)
theorem below_five {w0 : World} (HB : Below w0.heap.size w0 w) (hg : w0.heap.size ≤ g) (v0 v1 v2 v3 v4 : Value) : Below w0.heap.size w0 (((((w.setCell ⟨g, 0, none⟩ v0).setCell ⟨g, 1, none⟩ v1).setCell ⟨g, 2, none⟩ v2).setCell ⟨g, 3, none⟩ v3).setCell ⟨g, 4, none⟩ v4) := below_set (below_set (below_set (below_set (below_set HB hg) hg) hg) hg) hg
theorem two_far {k : Nat} (h : k ≠ g) (v0 v1 : Value) : ((w.setCell ⟨g, 0, none⟩ v0).setCell ⟨g, 1, none⟩ v1).heap[k]? = w.heap[k]? := by
  rw [Below.heap_setCell _ _ _ k h, Below.heap_setCell _ _ _ k h]
theorem two_blk {a0 a1 : Value} {t : TypeId} (h : w.heap[g]? = some (.cells #[a0, a1] t (0, 0))) (v0 v1 : Value) : ((w.setCell ⟨g, 0, none⟩ v0).setCell ⟨g, 1, none⟩ v1).heap[g]? = some (.cells #[v0, v1] t (0, 0)) := by
  have h0 := blk_put (cs' := #[v0, a1]) h 0 v0 rfl
  exact blk_put h0 1 v1 rfl
theorem R_two {α : Type} {d : Kd α} {e b : Nat} {ok : Nat → Prop} {v : Value} {xs : List α} {t : Nat} {cs : Array Value} (h : d.R e w b ok v xs) (hg : w.heap[g]? = some (.cells cs t (0, 0))) (ht : ∀ q, q ∈ e :: d.E → q ≠ t) (v0 v1 : Value) : d.R e ((w.setCell ⟨g, 0, none⟩ v0).setCell ⟨g, 1, none⟩ v1) b ok v xs :=
  Kd.R_mono (Kd.R_move (Kd.R_types h hg ht) (fun k hk => two_far hk.2 v0 v1)) (fun _ hk => hk.1)
end
/-- The trees of which the first n are told anew. -/
def mixT (f : S37 → S37) (ts : List S37) (n : Nat) : List S37 := (ts.take n).map f ++ ts.drop n
theorem mixT_zero (f : S37 → S37) (ts : List S37) : mixT f ts 0 = ts := by simp [mixT]
theorem mixT_all (f : S37 → S37) (ts : List S37) : mixT f ts ts.length = ts.map f := by simp [mixT]
theorem mixT_length (f : S37 → S37) (ts : List S37) (n : Nat) : (mixT f ts n).length = ts.length := by unfold mixT; simp; omega
theorem mixT_set (f : S37 → S37) (ts : List S37) (n : Nat) (h : n < ts.length) : (mixT f ts n).set n (f (rd_T37 ts (n : Int))) = mixT f ts (n + 1) := by
  have hm : ((ts.take n).map f).length = n := by rw [List.length_map, List.length_take]; omega
  have hr : rd_T37 ts (n : Int) = ts[n] := by
    unfold rd_T37
    rw [Int.toNat_natCast, List.getD_eq_getElem?_getD, List.getElem?_eq_getElem h]
    rfl
  unfold mixT
  rw [List.set_append_right _ _ (by omega), hm, Nat.sub_self, List.drop_eq_getElem_cons h, List.set_cons_zero, hr, List.take_add_one, List.getElem?_eq_getElem h, List.map_append, List.append_assoc]
  rfl
theorem canonL_length (ns : List S65) (P : List Nat) : (canonL ns P).length = P.length := List.length_map ..
theorem pre_len {ns : List S65} {T : BT} (hT : TreeIs ns T) (hcv : ∀ j, j < ns.length → j ∈ T.pre) : T.pre.length = ns.length := by
  have h1 := hT.few
  have h3 := range_le T.pre ns.length hcv
  omega
/-- What trees.Model asks of each tree, and what it makes of it. -/
def Canons (f : S37 → S37) (ts : List S37) : Prop := ∀ y ∈ ts, ∃ k T, trees_Shape.f k y.f0 y.f1 = some (0, 0) ∧ TreeIs y.f1 T ∧ TreeFine y.f1 ∧ (∀ j, j < y.f1.length → j ∈ T.pre) ∧ y.f1.length ≤ 1000000000000 ∧ f y = ⟨y.f0, canonL y.f1 T.pre⟩
section
variable (nm : ByteArray) (AF : Option Addr) (cF : Nat) (fs : List ByteArray) (outs : Int) (AB : Option Addr) (cB : Nat) (bs : List Int) (AT : Option Addr) (cT : Nat) (ts : List S37)
set_option maxHeartbeats 16000000 in
set_option maxRecDepth 100000 in
theorem trees_Model.calls (w : World) (f : S37 → S37) (hfs : Aside0 (Kd.C Kd.string w AF fs.length fs)) (hbs : Aside0 (Kd.C (Kd.int .i64) w AB bs.length bs)) (hts : Aside0 (Kd.C k37 w AT ts.length ts)) (SZC : Aside0 (CopySizes fs bs ts)) (HOK : Aside0 (Canons f ts)) :
    Calls Tryd.prog 7 #[.agg #[.string nm, .slice AF fs.length cF, .int .i64 outs, .slice AB bs.length cB, .slice AT ts.length cT]] w fun e w' => ∃ v1 v3 v4, e = .returned (.tuple #[.agg #[.string nm, v1, .int .i64 outs, v3, v4], .int .i64 0]) ∧ Kd.R Kd.string 9 w' w.heap.size (fun _ => True) v1 fs ∧ Kd.R (Kd.int .i64) 2 w' w.heap.size (fun _ => True) v3 bs ∧ Kd.R k37 37 w' w.heap.size (fun _ => True) v4 (ts.map f) ∧ Below w.heap.size w w' := by
  have HB := Aside0.mk (Below.refl w.heap.size w)
  have LT := Aside0.mk (show ts.length ≤ 8796093022208 by have := SZC.out.ts; omega)
  go_enter Tryd.func7, Tryd.ntmps7
  go_wp2_with (first | ((with_reducible refine gate_dst (N := 1) rfl ?_); refine box_event ?hg (N := 1) ?hd (cs := #[.string nm, .slice AF fs.length cF, .int .i64 outs, .slice AB bs.length cB, .slice AT ts.length cT]) (t := 26) ?hr ?_; (case hd => rfl); (case hg => rfl); (case hr => first | (go_simp; done) | (go_simp; rfl)); intro ge hg w1 hbox hb; have GE := Aside0.mk (show w.heap.size ≤ ge by rw [hg]; exact Nat.le_refl _); have n0_ := Aside0.mk (below_step (kB0 HB) hb); have Bge := Aside0.mk hbox; clear HB; have HB := n0_; clear n0_ hb hbox hg) | ((with_reducible refine gate_dst (N := 2) rfl ?_); refine box_event ?hg (N := 2) ?hd (cs := #[.string (⟨#[]⟩ : ByteArray), .slice none 0 0, .int .i64 0, .slice none 0 0, .slice none 0 0]) (t := 26) ?hr ?_; (case hd => rfl); (case hg => rfl); (case hr => first | (go_simp; done) | (go_simp; rfl)); intro gr hg w2 hbox hb; have GR := Aside0.mk (show w.heap.size ≤ gr by rw [hg]; exact below_size (kB0 HB)); have NE := Aside0.mk (show ge ≠ gr by rw [hg]; exact Nat.ne_of_lt (blk_lt Bge.out)); have mBge_ := Aside0.mk (blk_below Bge.out hb); have mHB_ := Aside0.mk (below_step (kB0 HB) hb); clear Bge HB; have Bge := mBge_; have HB := mHB_; clear mBge_ mHB_; have Bgr := Aside0.mk hbox; clear hb hbox hg; have he := blk5 (w := w2) Bge.out) | (go_at_call 15; refine (trees_Copy.calls nm AF cF fs outs AB cB bs AT cT ts _ ⟨Kd.C_below hfs.out (kB0 HB)⟩ ⟨Kd.C_below hbs.out (kB0 HB)⟩ ⟨Kd.C_below hts.out (kB0 HB)⟩ SZC).mono ?_; rintro e w3 ⟨v1, v3, v4, rfl, R1, R3, R4, hb⟩; obtain ⟨A1, c1, rfl, _, _⟩ := Kd.R_reads R1; obtain ⟨A3, c3, rfl, _, _⟩ := Kd.R_reads R3; obtain ⟨A4, c4, rfl, _, _⟩ := Kd.R_reads R4; have HF := Aside0.mk (Kd.R_lower R1 (below_size (kB0 HB))); have HBS := Aside0.mk (Kd.R_lower R3 (below_size (kB0 HB))); have HO := Aside0.mk (Kd.R_lower R4 (below_size (kB0 HB))); have mBge_ := Aside0.mk (blk_below Bge.out hb); have mBgr_ := Aside0.mk (blk_below Bgr.out hb); have mHB_ := Aside0.mk (below_step (kB0 HB) hb); clear Bge Bgr HB; have Bge := mBge_; have Bgr := mBgr_; have HB := mHB_; clear mBge_ mBgr_ mHB_; clear R1 R3 R4 hb he; have he := blk5 (w := w3) Bge.out) | ((with_reducible refine gate_dst (N := 4) rfl ?_); refine box_event ?hg (N := 4) ?hd (cs := #[.string (⟨#[]⟩ : ByteArray), .slice none 0 0, .int .i64 0, .slice none 0 0, .slice none 0 0]) (t := 26) ?hr ?_; (case hd => rfl); (case hg => rfl); (case hr => first | (go_simp; done) | (go_simp; rfl)); intro gO hg w4 hbox hb; have GO := Aside0.mk (show w.heap.size ≤ gO by rw [hg]; exact below_size (kB0 HB)); have NO := Aside0.mk (show ge ≠ gO ∧ gr ≠ gO by rw [hg]; exact ⟨Nat.ne_of_lt (blk_lt Bge.out), Nat.ne_of_lt (blk_lt Bgr.out)⟩); have mHF_ := Aside0.mk (Kd.R_below HF.out hb); have mHBS_ := Aside0.mk (Kd.R_below HBS.out hb); have mHO_ := Aside0.mk (Kd.R_below HO.out hb); have mBge_ := Aside0.mk (blk_below Bge.out hb); have mBgr_ := Aside0.mk (blk_below Bgr.out hb); have mHB_ := Aside0.mk (below_step (kB0 HB) hb); clear HF HBS HO Bge Bgr HB; have HF := mHF_; have HBS := mHBS_; have HO := mHO_; have Bge := mBge_; have Bgr := mBgr_; have HB := mHB_; clear mHF_ mHBS_ mHO_ mBge_ mBgr_ mHB_; have Bgo := Aside0.mk hbox; clear hb hbox hg he; have ho := blk5 (w := w4) Bgo.out; have he8 := blk5 (w := (((((w4.setCell ⟨gO, 0, none⟩ (.string nm)).setCell ⟨gO, 1, none⟩ (.slice A1 fs.length c1)).setCell ⟨gO, 2, none⟩ (.int .i64 outs)).setCell ⟨gO, 3, none⟩ (.slice A3 bs.length c3)).setCell ⟨gO, 4, none⟩ (.slice A4 ts.length c4))) ((five_far NO.out.1 (.string nm) (.slice A1 fs.length c1) (.int .i64 outs) (.slice A3 bs.length c3) (.slice A4 ts.length c4)).trans Bge.out)))
  have Be8 := Aside0.mk ((five_far NO.out.1 (.string nm) (.slice A1 fs.length c1) (.int .i64 outs) (.slice A3 bs.length c3) (.slice A4 ts.length c4)).trans Bge.out)
  have Br8 := Aside0.mk ((five_far NO.out.2 (.string nm) (.slice A1 fs.length c1) (.int .i64 outs) (.slice A3 bs.length c3) (.slice A4 ts.length c4)).trans Bgr.out)
  have Bo8 := Aside0.mk (five_blk Bgo.out (.string nm) (.slice A1 fs.length c1) (.int .i64 outs) (.slice A3 bs.length c3) (.slice A4 ts.length c4))
  have HF8 := Aside0.mk (R_five HF.out Bgo.out (by decide) (.string nm) (.slice A1 fs.length c1) (.int .i64 outs) (.slice A3 bs.length c3) (.slice A4 ts.length c4))
  have HBS8 := Aside0.mk (R_five HBS.out Bgo.out (by decide) (.string nm) (.slice A1 fs.length c1) (.int .i64 outs) (.slice A3 bs.length c3) (.slice A4 ts.length c4))
  have HO8 := Aside0.mk (R_five HO.out Bgo.out (by decide) (.string nm) (.slice A1 fs.length c1) (.int .i64 outs) (.slice A3 bs.length c3) (.slice A4 ts.length c4))
  have HB8 := Aside0.mk (below_five HB.out GO.out (.string nm) (.slice A1 fs.length c1) (.int .i64 outs) (.slice A3 bs.length c3) (.slice A4 ts.length c4))
  have HO9 : Aside0 (Kd.R k37 37 (((((w4.setCell ⟨gO, 0, none⟩ (.string nm)).setCell ⟨gO, 1, none⟩ (.slice A1 fs.length c1)).setCell ⟨gO, 2, none⟩ (.int .i64 outs)).setCell ⟨gO, 3, none⟩ (.slice A3 bs.length c3)).setCell ⟨gO, 4, none⟩ (.slice A4 ts.length c4)) w.heap.size (fun _ => True) (.slice A4 ts.length c4) (mixT f ts 0)) := ⟨by rw [mixT_zero]; exact HO8.out⟩
  clear ho he8 HF HBS HO HB Bge Bgr Bgo HO8
  go_loopg [14] (ts.length + 1) (fun kq v14 w' => ∃ (z : Int) (n : Nat), v14 = .int .i64 z ∧ Aside0 (z = n) ∧ Aside0 (n ≤ ts.length) ∧ Aside0 (ts.length - n < kq) ∧ Aside0 (Kd.R k37 37 w' w.heap.size (fun _ => True) (.slice A4 ts.length c4) (mixT f ts n)) ∧ Aside0 (Kd.R Kd.string 9 w' w.heap.size (fun _ => True) (.slice A1 fs.length c1) fs) ∧ Aside0 (Kd.R (Kd.int .i64) 2 w' w.heap.size (fun _ => True) (.slice A3 bs.length c3) bs) ∧ Aside0 (w'.heap[ge]? = some (.cells #[.string nm, .slice AF fs.length cF, .int .i64 outs, .slice AB bs.length cB, .slice AT ts.length cT] 26 (0, 0))) ∧ Aside0 (w'.heap[gr]? = some (.cells #[.string (⟨#[]⟩ : ByteArray), .slice none 0 0, .int .i64 0, .slice none 0 0, .slice none 0 0] 26 (0, 0))) ∧ Aside0 (w'.heap[gO]? = some (.cells #[.string nm, .slice A1 fs.length c1, .int .i64 outs, .slice A3 bs.length c3, .slice A4 ts.length c4] 26 (0, 0))) ∧ Aside0 (Below w.heap.size w w'))
  case atStart => exact ⟨0, 0, rfl, ⟨rfl⟩, ⟨Nat.zero_le _⟩, ⟨by omega⟩, HO9, HF8, HBS8, Be8, Br8, Bo8, HB8⟩
  case round =>
    clear HO9 HF8 HBS8 Be8 Br8 Bo8 HB8
    obtain ⟨z, n, rfl, hz, hn, hk, HO, HF, HBS, Bge, Bgr, Bgo, HB⟩ := hrel
    cases gk with
    | zero => exact absurd hk.out (by omega)
    | succ k1 =>
      have hzz := hz.out
      have hnn := hn.out
      by_cases hend : n = ts.length
      · have cnd : decide (z < (ts.length : Int)) = false := decide_eq_false (by omega)
        subst hend
        have ho := blk5 (w := wr) Bgo.out
        have hr := blk5 (w := wr) Bgr.out
        have HO' := Aside0.mk (show Kd.R k37 37 wr w.heap.size (fun _ => True) (.slice A4 ts.length c4) (ts.map f) by have h_ := HO.out; rwa [mixT_all] at h_)
        clear hzz hnn HO
        go_wp2
        refine bodyPost_ret (results_ct rfl _ _ gr 26 #[.string nm, .slice A1 fs.length c1, .int .i64 outs, .slice A3 bs.length c3, .slice A4 ts.length c4] (0, 0) _ rfl (five_blk Bgr.out (.string nm) (.slice A1 fs.length c1) (.int .i64 outs) (.slice A3 bs.length c3) (.slice A4 ts.length c4)) Tryd.underlying26 rfl (by kernel_rfl)) rfl ?_
        exact ⟨_, _, _, rfl, R_five HF.out Bgr.out (by decide) (.string nm) (.slice A1 fs.length c1) (.int .i64 outs) (.slice A3 bs.length c3) (.slice A4 ts.length c4), R_five HBS.out Bgr.out (by decide) (.string nm) (.slice A1 fs.length c1) (.int .i64 outs) (.slice A3 bs.length c3) (.slice A4 ts.length c4), R_five HO'.out Bgr.out (by decide) (.string nm) (.slice A1 fs.length c1) (.int .i64 outs) (.slice A3 bs.length c3) (.slice A4 ts.length c4), below_five HB.out GR.out (.string nm) (.slice A1 fs.length c1) (.int .i64 outs) (.slice A3 bs.length c3) (.slice A4 ts.length c4)⟩
      · have cnd : decide (z < (ts.length : Int)) = true := decide_eq_true (by omega)
        have p1 : 0 ≤ z := by omega
        have p2 : z < (ts.length : Int) := by omega
        have hlt : n < ts.length := by omega
        have he := blk5 (w := wr) Bge.out
        obtain ⟨ad, A2, c2, rfl, e0, e1, l2, g2⟩ := at_T37 hts.out z p1 p2
        obtain ⟨g, cap, eg, gb, gl, _⟩ := Kd.R_form HO.out (by rw [mixT_length]; omega)
        injection eg with eA_ e2_ eC_
        subst eA_
        subst eC_
        clear e2_
        obtain ⟨y, hy⟩ : ∃ y, y = rd_T37 ts z := ⟨_, rfl⟩
        rw [← hy] at e0 e1 l2 g2
        have hyn : y ∈ ts := by
          rw [hy, hzz]
          unfold rd_T37
          rw [Int.toNat_natCast, List.getD_eq_getElem?_getD, List.getElem?_eq_getElem hlt]
          exact List.getElem_mem hlt
        obtain ⟨k, T, ks, hT, tf, hcv, hln, hfy⟩ := HOK.out y hyn
        have KS := Aside0.mk ks
        have HTT := Aside0.mk hT
        have TF := Aside0.mk tf
        have HCV := Aside0.mk hcv
        have HLN := Aside0.mk hln
        have FE := Aside0.mk hfy
        have HCT := Aside0.mk (SZC.out.nodes y hyn).2
        have CL := Aside0.mk (show (canonL y.f1 T.pre).length = y.f1.length by rw [canonL_length]; exact pre_len hT hcv)
        have XX := Aside0.mk (show (mixT f ts n).set z.toNat (f y) = mixT f ts (n + 1) by rw [hy, hzz, Int.toNat_natCast]; exact mixT_set f ts n hlt)
        have GG := Aside0.mk (⟨gb, gl⟩ : w.heap.size ≤ g ∧ g < wr.heap.size)
        have PP := Aside0.mk (⟨p1, p2⟩ : 0 ≤ z ∧ z < (ts.length : Int))
        have L2 := Aside0.mk l2
        have G2 := Aside0.mk g2
        have HLT := Aside0.mk hlt
        have XN := Aside0.mk hzz
        replace e0 := (HB.out.cell (World.block_lt_of_cell? w _ e0)).trans e0
        replace e1 := (HB.out.cell (World.block_lt_of_cell? w _ e1)).trans e1
        replace p1 := eq_true p1
        replace p2 := eq_true p2
        clear hzz hnn hend hlt hy g2 l2 hyn gb gl ks hT tf hcv hln hfy
        go_wp2_with (first | ((with_reducible refine gate_dst (N := 6) rfl ?_); refine box_event ?hg (N := 6) ?hd (cs := #[.int .i64 0, .slice none 0 0]) (t := 37) ?hr ?_; (case hd => rfl); (case hg => rfl); (case hr => first | (go_simp; done) | (go_simp; rfl)); intro gt hg w5 hbox hb; have GT := Aside0.mk (show w.heap.size ≤ gt by rw [hg]; exact below_size (kB0 HB)); have GLT := Aside0.mk (show g < gt by rw [hg]; exact GG.out.2); have NG := Aside0.mk (show ge ≠ gt ∧ gr ≠ gt ∧ gO ≠ gt by rw [hg]; exact ⟨Nat.ne_of_lt (blk_lt Bge.out), Nat.ne_of_lt (blk_lt Bgr.out), Nat.ne_of_lt (blk_lt Bgo.out)⟩); have mHO_ := Aside0.mk (Kd.R_below (Kd.R_elderB HO.out gt (Nat.le_of_eq hg.symm)) hb); have mHF_ := Aside0.mk (Kd.R_below HF.out hb); have mHBS_ := Aside0.mk (Kd.R_below HBS.out hb); have mBge_ := Aside0.mk (blk_below Bge.out hb); have mBgr_ := Aside0.mk (blk_below Bgr.out hb); have mBgo_ := Aside0.mk (blk_below Bgo.out hb); have mHB_ := Aside0.mk (below_step (kB0 HB) hb); clear HO HF HBS Bge Bgr Bgo HB; have HO := mHO_; have HF := mHF_; have HBS := mHBS_; have Bge := mBge_; have Bgr := mBgr_; have Bgo := mBgo_; have HB := mHB_; clear mHO_ mHF_ mHBS_ mBge_ mBgr_ mBgo_ mHB_; have Bgt := Aside0.mk hbox; clear hb hbox hg he e0 e1; have ht := blk2 (w := w5) Bgt.out; have ht8 := blk2 (w := ((w5.setCell ⟨gt, 0, none⟩ (.int .i64 y.f0)).setCell ⟨gt, 1, none⟩ (.slice A2 y.f1.length c2))) (two_blk Bgt.out (.int .i64 y.f0) (.slice A2 y.f1.length c2))) | (go_at_call 16; have mHO_ := Aside0.mk (Kd.R_far (p := ⟨gt, 1, none⟩) (Kd.R_far (p := ⟨gt, 0, none⟩) HO.out (fun _ h => h.2) (.int .i64 y.f0)) (fun _ h => h.2) (.slice A2 y.f1.length c2)); have mHF_ := Aside0.mk (R_two (g := gt) HF.out Bgt.out (by decide) (.int .i64 y.f0) (.slice A2 y.f1.length c2)); have mHBS_ := Aside0.mk (R_two (g := gt) HBS.out Bgt.out (by decide) (.int .i64 y.f0) (.slice A2 y.f1.length c2)); have mBge_ := Aside0.mk ((two_far (g := gt) NG.out.1 (.int .i64 y.f0) (.slice A2 y.f1.length c2)).trans Bge.out); have mBgr_ := Aside0.mk ((two_far (g := gt) NG.out.2.1 (.int .i64 y.f0) (.slice A2 y.f1.length c2)).trans Bgr.out); have mBgo_ := Aside0.mk ((two_far (g := gt) NG.out.2.2 (.int .i64 y.f0) (.slice A2 y.f1.length c2)).trans Bgo.out); have mHB_ := Aside0.mk (below_set (g := gt) (j := 1) (v := (.slice A2 y.f1.length c2)) (below_set (g := gt) (j := 0) (v := .int .i64 y.f0) HB.out GT.out) GT.out); clear HO HF HBS Bge Bgr Bgo HB; have HO := mHO_; have HF := mHF_; have HBS := mHBS_; have Bge := mBge_; have Bgr := mBgr_; have Bgo := mBgo_; have HB := mHB_; clear mHO_ mHF_ mHBS_ mBge_ mBgr_ mBgo_ mHB_; have SZ5 := Aside0.mk (show g < ((w5.setCell ⟨gt, 0, none⟩ (.int .i64 y.f0)).setCell ⟨gt, 1, none⟩ (.slice A2 y.f1.length c2)).heap.size by rw [World.size_setCell, World.size_setCell]; exact Nat.lt_trans GLT.out (blk_lt Bgt.out)); refine (trees_Canon.calls _ y.f0 A2 c2 y.f1 T k ⟨Kd.C_below G2.out HB.out⟩ L2 KS HTT TF HCV HLN HCT).mono ?_; rintro e w7 ⟨v7, rfl, R, hb⟩; obtain ⟨A7, c7, e7_, _, _⟩ := Kd.R_reads R; rw [CL.out] at e7_; subst e7_; have HN := Aside0.mk (show Kd.R k65 65 w7 w.heap.size (fun k => k ≠ g) (.slice A7 y.f1.length c7) (canonL y.f1 T.pre) from Kd.R_lower (Kd.R_mono (ok' := fun k => k ≠ g) (Kd.R_bound R) (fun k hk => by have h1_ := hk.2.1; have h2_ := SZ5.out; exact fun e_ => by subst e_; omega)) (below_size HB.out)); have mHO_ := Aside0.mk (Kd.R_below HO.out hb); have mHF_ := Aside0.mk (Kd.R_below HF.out hb); have mHBS_ := Aside0.mk (Kd.R_below HBS.out hb); have mBge_ := Aside0.mk (blk_below Bge.out hb); have mBgr_ := Aside0.mk (blk_below Bgr.out hb); have mBgo_ := Aside0.mk (blk_below Bgo.out hb); have mHB_ := Aside0.mk (below_step HB.out hb); clear HO HF HBS Bge Bgr Bgo HB; have HO := mHO_; have HF := mHF_; have HBS := mHBS_; have Bge := mBge_; have Bgr := mBgr_; have Bgo := mBgo_; have HB := mHB_; clear mHO_ mHF_ mHBS_ mBge_ mBgr_ mBgo_ mHB_; clear R hb ht ht8 Bgt) | ((with_reducible refine gate_dst (N := 7) rfl ?_); refine box_event ?hg (N := 7) ?hd (cs := #[.int .i64 0, .slice none 0 0]) (t := 37) ?hr ?_; (case hd => rfl); (case hg => rfl); (case hr => first | (go_simp; done) | (go_simp; rfl)); intro gc hg w8 hbox hb; have GC := Aside0.mk (show w.heap.size ≤ gc by rw [hg]; exact below_size HB.out); have NC := Aside0.mk (show ge ≠ gc ∧ gr ≠ gc ∧ gO ≠ gc by rw [hg]; exact ⟨Nat.ne_of_lt (blk_lt Bge.out), Nat.ne_of_lt (blk_lt Bgr.out), Nat.ne_of_lt (blk_lt Bgo.out)⟩); have mHO_ := Aside0.mk (Kd.R_below (Kd.R_elderB HO.out gc (Nat.le_of_eq hg.symm)) hb); have mHN_ := Aside0.mk (Kd.R_below HN.out hb); have mHF_ := Aside0.mk (Kd.R_below HF.out hb); have mHBS_ := Aside0.mk (Kd.R_below HBS.out hb); have mBge_ := Aside0.mk (blk_below Bge.out hb); have mBgr_ := Aside0.mk (blk_below Bgr.out hb); have mBgo_ := Aside0.mk (blk_below Bgo.out hb); have mHB_ := Aside0.mk (below_step HB.out hb); clear HO HN HF HBS Bge Bgr Bgo HB; have HO := mHO_; have HN := mHN_; have HF := mHF_; have HBS := mHBS_; have Bge := mBge_; have Bgr := mBgr_; have Bgo := mBgo_; have HB := mHB_; clear mHO_ mHN_ mHF_ mHBS_ mBge_ mBgr_ mBgo_ mHB_; have Bgc := Aside0.mk hbox; clear hb hbox hg; have hc := blk2 (w := w8) Bgc.out; have hc8 := blk2 (w := ((w8.setCell ⟨gc, 0, none⟩ (.int .i64 y.f0)).setCell ⟨gc, 1, none⟩ (.slice A7 y.f1.length c7))) (two_blk Bgc.out (.int .i64 y.f0) (.slice A7 y.f1.length c7)); have ho8 := blk5 (w := ((w8.setCell ⟨gc, 0, none⟩ (.int .i64 y.f0)).setCell ⟨gc, 1, none⟩ (.slice A7 y.f1.length c7))) ((two_far (g := gc) NC.out.2.2 (.int .i64 y.f0) (.slice A7 y.f1.length c7)).trans Bgo.out)) | ((with_reducible refine gate_store (p := 32) rfl ?_); have mHO_ := Aside0.mk (Kd.R_mono (ok' := fun _ => True) (Kd.R_far (p := ⟨gc, 1, none⟩) (Kd.R_far (p := ⟨gc, 0, none⟩) HO.out (fun _ h => h.2) (.int .i64 y.f0)) (fun _ h => h.2) (.slice A7 y.f1.length c7)) (fun _ _ => trivial)); have mHN_ := Aside0.mk (R_two (g := gc) HN.out Bgc.out (by decide) (.int .i64 y.f0) (.slice A7 y.f1.length c7)); have mHF_ := Aside0.mk (R_two (g := gc) HF.out Bgc.out (by decide) (.int .i64 y.f0) (.slice A7 y.f1.length c7)); have mHBS_ := Aside0.mk (R_two (g := gc) HBS.out Bgc.out (by decide) (.int .i64 y.f0) (.slice A7 y.f1.length c7)); have mBge_ := Aside0.mk ((two_far (g := gc) NC.out.1 (.int .i64 y.f0) (.slice A7 y.f1.length c7)).trans Bge.out); have mBgr_ := Aside0.mk ((two_far (g := gc) NC.out.2.1 (.int .i64 y.f0) (.slice A7 y.f1.length c7)).trans Bgr.out); have mBgo_ := Aside0.mk ((two_far (g := gc) NC.out.2.2 (.int .i64 y.f0) (.slice A7 y.f1.length c7)).trans Bgo.out); have mHB_ := Aside0.mk (below_set (g := gc) (j := 1) (v := (.slice A7 y.f1.length c7)) (below_set (g := gc) (j := 0) (v := .int .i64 y.f0) HB.out GC.out) GC.out); clear HO HN HF HBS Bge Bgr Bgo HB; have HO := mHO_; have HN := mHN_; have HF := mHF_; have HBS := mHBS_; have Bge := mBge_; have Bgr := mBgr_; have Bgo := mBgo_; have HB := mHB_; clear mHO_ mHN_ mHF_ mHBS_ mBge_ mBgr_ mBgo_ mHB_; obtain ⟨cc, hcl, hM, hcc, _⟩ := Kd.R_elem HO.out y z PP.out.1 PP.out.2; obtain ⟨v9, rfl, _⟩ := k37_openM hM; refine Kd.R_store k37 (w0 := w) w.heap.size rfl rfl 37 (.tmp 32) (.tmp 31) rfl 37 z 0 (mixT f ts n) (f y) (.agg #[.int .i64 y.f0, (.slice A7 y.f1.length c7)]) [.int .i64 y.f0, (.slice A7 y.f1.length c7)] _ (fun _ => True) (fun k => k ≠ g) (by rfl) (by show _ = z.toNat * 2 + 0; omega) (by rfl) rfl (by kernel_rfl) (by intro q hq; simp only [List.mem_cons, List.not_mem_nil, or_false] at hq; rcases hq with rfl | rfl <;> rfl) HO.out PP.out.1 PP.out.2 hcl hcc (by show 0 + 2 ≤ 2; omega) (by rw [FE.out]; exact k37_mkM _ _ _ (⟨y.f0, canonL y.f1 T.pre⟩ : S37) HN.out) (fun k hk => ⟨trivial, hk⟩) HB.out ?_; intro w9 hro hb hg; rw [XX.out] at hro; have mHF_ := Aside0.mk (Kd.R_over' (v := .slice (some ⟨g, 0, none⟩) ts.length c4) HF.out (Kd.R_typed HO.out) (by decide) hg); have mHBS_ := Aside0.mk (Kd.R_over' (v := .slice (some ⟨g, 0, none⟩) ts.length c4) HBS.out (Kd.R_typed HO.out) (by decide) hg); have mBge_ := Aside0.mk (blk_grown Bge.out hg (Kd.R_ne HO.out Bge.out (by decide))); have mBgr_ := Aside0.mk (blk_grown Bgr.out hg (Kd.R_ne HO.out Bgr.out (by decide))); have mBgo_ := Aside0.mk (blk_grown Bgo.out hg (Kd.R_ne HO.out Bgo.out (by decide))); clear HF HBS Bge Bgr Bgo; have HF := mHF_; have HBS := mHBS_; have Bge := mBge_; have Bgr := mBgr_; have Bgo := mBgo_; clear mHF_ mHBS_ mBge_ mBgr_ mBgo_; clear HO HB HN hc hc8 ho8 Bgc hcl hcc hM; have HO := Aside0.mk hro; have HB := Aside0.mk hb; clear hro hb hg))
        go_roundg k1
        case measure => have := hk.out; have := HLT.out; omega
        case rel => exact ⟨_, n + 1, rfl, ⟨by have := XN.out; have := HLT.out; have := LT.out; unfold wrap64; omega⟩, ⟨HLT.out⟩, ⟨by have := hk.out; have := HLT.out; omega⟩, HO, HF, HBS, Bge, Bgr, Bgo, HB⟩
end
end Go.Proofs.YtpeiafamkajedaaDoor.FAll
