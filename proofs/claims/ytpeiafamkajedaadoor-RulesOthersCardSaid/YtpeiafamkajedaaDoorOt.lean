/-
  The law RulesOthers: its walk.
-/
import Derived.Test.YtpeiafamkajedaaDoorCm
import Derived.Test.YtpeiafamkajedaaDoorGb
import Derived.Laws.StructEq
namespace Go.Proofs.YtpeiafamkajedaaDoor.FAll
open Go.RowKit Go.Shelf Go.Maps Go.WideMaps Go.Proofs.YtpeiafamkajedaaDoorW.PrintWords Go.Proofs.YtpeiafamkajedaaDoorW.PrintLast Go.Proofs.YtpeiafamkajedaaDoorW.PrintMore BTree
attribute [local go_sem] fstore_walk
set_option linter.unusedVariables false
set_option linter.unusedSimpArgs false
theorem turn_eq {tn : Int} {k n : Nat} (h0 : 0 < n) (h1 : n ≤ 65536) (hk : k < n) : (IntKind.u64.wrap ((k : Int) + (IntKind.u64.wrap tn).tmod (n : Int))).tmod (n : Int) = (((k + ((tn % 18446744073709551616) % (n : Int)).toNat) % n : Nat) : Int) := by
  have h2 : 0 ≤ tn % 18446744073709551616 := Int.emod_nonneg _ (by decide)
  rw [IntKind.wrap_u64 tn, Int.tmod_eq_emod_of_nonneg h2]
  obtain ⟨m, hm⟩ : ∃ m : Nat, (m : Int) = (tn % 18446744073709551616) % (n : Int) := ⟨((tn % 18446744073709551616) % (n : Int)).toNat, Int.toNat_of_nonneg (Int.emod_nonneg _ (by omega))⟩
  have h3 : (m : Int) < (n : Int) := by rw [hm]; exact Int.emod_lt_of_pos _ (by omega)
  rw [← hm, Int.toNat_natCast, IntKind.wrap_u64, show ((k : Int) + (m : Int)) % 18446744073709551616 = ((k + m : Nat) : Int) by omega, Int.tmod_eq_emod_of_nonneg (by omega)]
  rfl
theorem small_ii {ii n : Nat} (h : ii < n) (hn : n ≤ 65536) : IntKind.i64.wrap (ii : Int) = (ii : Int) ∧ wrap64 (ii : Int) = (ii : Int) ∧ (0 : Int) ≤ (ii : Int) ∧ (ii : Int) < (n : Int) := by
  refine ⟨?_, ?_, by omega, by omega⟩
  · rw [IntKind.wrap_i64]; omega
  · unfold wrap64; omega
theorem meas {n k kq : Nat} (h : n - k < kq + 1) (hlt : k < n) : n - (k + 1) < kq := by omega
theorem small_kk {k n : Nat} (h : k < n) (hn : n ≤ 65536) : IntKind.u64.wrap ((k : Int) + 1) = ((k + 1 : Nat) : Int) := by rw [IntKind.wrap_u64]; omega
/-- The trees that are taken in the first k rounds. -/
def pickT (ts : List S37) (ov : List Bool) (r : Nat) : Nat → List S37
  | 0 => []
  | k + 1 => if ov.getD ((k + r) % ts.length) false = true then pickT ts ov r k else pickT ts ov r k ++ [rd_T37 ts (((k + r) % ts.length : Nat) : Int)]
theorem pickT_length (ts : List S37) (ov : List Bool) (r : Nat) : ∀ k, (pickT ts ov r k).length ≤ k
  | 0 => Nat.le_refl _
  | k + 1 => by
    have h := pickT_length ts ov r k
    unfold pickT
    split
    · omega
    · rw [List.length_append, List.length_singleton]; omega
theorem heapN : Kd.Heap k65 := ⟨fun hb h => by
  obtain ⟨A4, c4, rfl, l4, g4⟩ := k65_open h
  exact k65_mk _ _ l4 (Kd.Heap.C ⟨fun _ h => h⟩ hb g4)⟩
theorem nodesF {w W : World} {A : Option Addr} {n : Nat} {xs : List S65} (h : Kd.C k65 w A n xs) (hb : Below w.heap.size w W) : Kd.F k65 W (fun k => k < w.heap.size) A n xs := fun W' hW =>
  heapN.C (fun k hlt => (hW k hlt (Nat.lt_of_lt_of_le hlt hb.size)).trans (hb.block k hlt)) h
theorem cellB' {w w1 : World} (h : Below w.heap.size w w1) {a : Addr} {v : Value} (hc : w.cell? a = some v) : w1.cell? a = some v := (h.cell (World.block_lt_of_cell? w a hc)).trans hc
theorem R_overN' {α β : Type} {d : Kd α} {d' : Kd β} {e e' : Nat} {W w1 : World} {b b' : Nat} {ok ok' : Nat → Prop} {u v : Value} {xs : List α} {ys : List β} (h : d.R e W b ok u xs) (hv : d'.N e' W b' ok' v ys) (ht : ∀ q, q ∈ e :: d.E → q ≠ e') (hg : W.grownBy w1 v.ownBlock) : d.R e w1 b ok u xs :=
  Kd.R_over' h (Kd.N_typed hv) ht hg
section
variable (nm : ByteArray) (AF : Option Addr) (cF : Nat) (fs : List ByteArray) (outs : Int) (AB : Option Addr) (cB : Nat) (bs : List Int) (AT : Option Addr) (cT : Nat) (ts : List S37) (tn : Int) (AO : Option Addr) (cO : Nat) (ov : List Bool)
set_option maxHeartbeats 16000000 in
set_option maxRecDepth 100000 in
theorem others_wrong (w : World) (hfs : Aside0 (Kd.C Kd.string w AF fs.length fs)) (hsz : Aside0 (∀ s ∈ fs, s.size ≤ maxLen)) (hbs : Aside0 (Kd.C (Kd.int .i64) w AB bs.length bs)) (hts : Aside0 (Kd.C k37 w AT ts.length ts)) (htab : Aside0 (Tab w))
    (hsh : Aside0 (∀ y ∈ ts, ∃ k, 1 ≤ y.f1.length → trees_Shape.f k y.f0 y.f1 = some ((shapeV y).1, (shapeV y).2))) (r1 r2 r3 : Int) (HC : Aside0 (checkV shapeV nm fs outs bs ts = (r1, r2, r3))) (hr : r1 ≠ 0) :
    Calls Tryd.prog 3 #[.agg #[.string nm, .slice AF fs.length cF, .int .i64 outs, .slice AB bs.length cB, .slice AT ts.length cT], .int .i64 tn, .slice AO ov.length cO] w fun e w' => e = .returned (.bool true) ∧ Below w.heap.size w w' := by
  have HB := Aside0.mk (Below.refl w.heap.size w)
  have d1 : decide (r1 = 0 ∧ r2 = 0 ∧ r3 = 0) = false := decide_eq_false (fun h => hr h.1)
  clear hr
  go_enter Tryd.func3, Tryd.ntmps3
  go_wp2_with (first | ((with_reducible refine gate_dst (N := 3) rfl ?_); refine box_event ?hg (N := 3) ?hd (cs := #[.string nm, .slice AF fs.length cF, .int .i64 outs, .slice AB bs.length cB, .slice AT ts.length cT]) (t := 26) ?hr ?_; (case hd => rfl); (case hg => rfl); (case hr => first | (go_simp; done) | (go_simp; rfl)); intro ge hg w1 hbox hb; have GE := Aside0.mk (show w.heap.size ≤ ge by rw [hg]; exact Nat.le_refl _); have n0_ := Aside0.mk (below_step (kB0 HB) hb); have Bge := Aside0.mk hbox; clear HB; have HB := n0_; clear n0_ hb hbox hg; have he := blk5 (w := w1) Bge.out) | (go_at_call 5; refine (begins.calls _ ⟨tab_below htab.out (kB0 HB)⟩).mono ?_; rintro e w2 ⟨rfl, hb⟩; have mBge_ := Aside0.mk (blk_below Bge.out hb); have mHB_ := Aside0.mk (below_step (kB0 HB) hb); clear Bge HB; have Bge := mBge_; have HB := mHB_; clear mBge_ mHB_; clear hb he; have he := blk5 (w := w2) Bge.out) | (go_at_call 6; refine (rules_Valid.calls nm AF cF fs outs AB cB bs AT cT ts shapeV _ ⟨Kd.C_below hfs.out (kB0 HB)⟩ hsz ⟨Kd.C_below hbs.out (kB0 HB)⟩ ⟨Kd.C_below hts.out (kB0 HB)⟩ ⟨tab_below htab.out (kB0 HB)⟩ hsh r1 r2 r3 HC).mono ?_; rintro e w3 ⟨rfl, hb⟩; have mBge_ := Aside0.mk (blk_below Bge.out hb); have mHB_ := Aside0.mk (below_step (kB0 HB) hb); clear Bge HB; have Bge := mBge_; have HB := mHB_; clear mBge_ mHB_; clear hb he; have he := blk5 (w := w3) Bge.out))
  go_ret
  exact ⟨rfl, kB0 HB⟩
set_option maxHeartbeats 16000000 in
set_option maxRecDepth 100000 in
theorem others_right (w : World) (f : S37 → S37) (hfs : Aside0 (Kd.C Kd.string w AF fs.length fs)) (hsz : Aside0 (∀ s ∈ fs, s.size ≤ maxLen)) (hbs : Aside0 (Kd.C (Kd.int .i64) w AB bs.length bs)) (hts : Aside0 (Kd.C k37 w AT ts.length ts)) (htab : Aside0 (Tab w))
    (hsh : Aside0 (∀ y ∈ ts, ∃ k, 1 ≤ y.f1.length → trees_Shape.f k y.f0 y.f1 = some ((shapeV y).1, (shapeV y).2))) (HC : Aside0 (checkV shapeV nm fs outs bs ts = (0, 0, 0)))
    (hcap : Aside0 (fs.length ≤ cF ∧ bs.length ≤ cB ∧ ts.length ≤ cT)) (hov : Aside0 (Kd.C Kd.bool w AO ov.length ov)) (SZC : Aside0 (CopySizes fs bs ts)) (HOK : Aside0 (Canons f ts))
    (hshm : Aside0 (∀ y ∈ ts.map f, ∃ k, 1 ≤ y.f1.length → trees_Shape.f k y.f0 y.f1 = some ((shapeV y).1, (shapeV y).2))) (HCM : Aside0 (checkV shapeV nm fs outs bs (ts.map f) = (0, 0, 0)))
    (kc : Nat) (HCP : Aside0 (thicketref07_Copy.f kc nm fs outs bs ts = some (nm, fs, outs, bs, ts))) (kn : Nat) (NL : List ByteArray) (HNM : Aside0 (thicketlaw08_names.f kn (fs.length : Int) = some NL)) (hnsz : Aside0 (∀ s ∈ NL, s.size ≤ maxLen)) (HTL : Aside0 (ts.length ≤ 65536)) (r : Nat) (HR : Aside0 (r = ((tn % 18446744073709551616) % (ts.length : Int)).toNat))
    (hshf : Aside0 (∀ y ∈ pickT ts ov r ts.length, ∃ k, 1 ≤ y.f1.length → trees_Shape.f k y.f0 y.f1 = some ((shapeV y).1, (shapeV y).2))) (HCF : Aside0 (checkV shapeV nm NL outs bs (pickT ts ov r ts.length) = (0, 0, 0))) :
    Calls Tryd.prog 3 #[.agg #[.string nm, .slice AF fs.length cF, .int .i64 outs, .slice AB bs.length cB, .slice AT ts.length cT], .int .i64 tn, .slice AO ov.length cO] w fun e w' => e = .returned (.bool true) ∧ Below w.heap.size w w' := by
  have HB := Aside0.mk (Below.refl w.heap.size w)
  go_enter Tryd.func3, Tryd.ntmps3
  go_wp2_with (first | ((with_reducible refine gate_dst (N := 3) rfl ?_); refine box_event ?hg (N := 3) ?hd (cs := #[.string nm, .slice AF fs.length cF, .int .i64 outs, .slice AB bs.length cB, .slice AT ts.length cT]) (t := 26) ?hr ?_; (case hd => rfl); (case hg => rfl); (case hr => first | (go_simp; done) | (go_simp; rfl)); intro ge hg w1 hbox hb; have GE := Aside0.mk (show w.heap.size ≤ ge by rw [hg]; exact Nat.le_refl _); have n0_ := Aside0.mk (below_step (kB0 HB) hb); have Bge := Aside0.mk hbox; clear HB; have HB := n0_; clear n0_ hb hbox hg; have he := blk5 (w := w1) Bge.out) | (go_at_call 5; refine (begins.calls _ ⟨tab_below htab.out (kB0 HB)⟩).mono ?_; rintro e w2 ⟨rfl, hb⟩; have mBge_ := Aside0.mk (blk_below Bge.out hb); have mHB_ := Aside0.mk (below_step (kB0 HB) hb); clear Bge HB; have Bge := mBge_; have HB := mHB_; clear mBge_ mHB_; clear hb he; have he := blk5 (w := w2) Bge.out) | (go_at_call 6; refine (rules_Valid.calls nm AF cF fs outs AB cB bs AT cT ts shapeV _ ⟨Kd.C_below hfs.out (kB0 HB)⟩ hsz ⟨Kd.C_below hbs.out (kB0 HB)⟩ ⟨Kd.C_below hts.out (kB0 HB)⟩ ⟨tab_below htab.out (kB0 HB)⟩ hsh 0 0 0 HC).mono ?_; rintro e w3 ⟨rfl, hb⟩; have mBge_ := Aside0.mk (blk_below Bge.out hb); have mHB_ := Aside0.mk (below_step (kB0 HB) hb); clear Bge HB; have Bge := mBge_; have HB := mHB_; clear mBge_ mHB_; clear hb he; have he := blk5 (w := w3) Bge.out) | (go_at_call 7; refine (trees_Model.calls nm AF cF fs outs AB cB bs AT cT ts _ f ⟨Kd.C_below hfs.out (kB0 HB)⟩ ⟨Kd.C_below hbs.out (kB0 HB)⟩ ⟨Kd.C_below hts.out (kB0 HB)⟩ SZC HOK).mono ?_; rintro e w4 ⟨v1, v3, v4, rfl, R1, R3, R4, hb⟩; obtain ⟨A1, c1, rfl, _, _⟩ := Kd.R_reads R1; obtain ⟨A3, c3, rfl, _, _⟩ := Kd.R_reads R3; obtain ⟨A4, c4, e4_, _, _⟩ := Kd.R_reads R4; rw [List.length_map] at e4_; subst e4_; have M1 := Aside0.mk R1; have M3 := Aside0.mk R3; have M4 := Aside0.mk R4; clear R1 R3 R4; have mBge_ := Aside0.mk (blk_below Bge.out hb); have mHB_ := Aside0.mk (below_step (kB0 HB) hb); clear Bge HB; have Bge := mBge_; have HB := mHB_; clear mBge_ mHB_; clear hb he; have he := blk5 (w := w4) Bge.out) | ((with_reducible refine gate_dst (N := 7) rfl ?_); refine box_event ?hg (N := 7) ?hd (cs := #[.string (⟨#[]⟩ : ByteArray), .slice none 0 0, .int .i64 0, .slice none 0 0, .slice none 0 0]) (t := 26) ?hr ?_; (case hd => rfl); (case hg => rfl); (case hr => first | (go_simp; done) | (go_simp; rfl)); intro gm hg w5 hbox hb; have GM := Aside0.mk (show w.heap.size ≤ gm by rw [hg]; exact below_size HB.out); have NM := Aside0.mk (show ge ≠ gm by rw [hg]; exact Nat.ne_of_lt (blk_lt Bge.out)); have mM1_ := Aside0.mk (Kd.R_below M1.out hb); have mM3_ := Aside0.mk (Kd.R_below M3.out hb); have mM4_ := Aside0.mk (Kd.R_below M4.out hb); have mBge_ := Aside0.mk (blk_below Bge.out hb); have mHB_ := Aside0.mk (below_step (kB0 HB) hb); clear M1 M3 M4 Bge HB; have M1 := mM1_; have M3 := mM3_; have M4 := mM4_; have Bge := mBge_; have HB := mHB_; clear mM1_ mM3_ mM4_ mBge_ mHB_; have Bgm := Aside0.mk hbox; clear hb hbox hg he; have hm := blk5 (w := w5) Bgm.out; have hm8 := blk5 (w := (((((w5.setCell ⟨gm, 0, none⟩ (.string nm)).setCell ⟨gm, 1, none⟩ (.slice A1 fs.length c1)).setCell ⟨gm, 2, none⟩ (.int .i64 outs)).setCell ⟨gm, 3, none⟩ (.slice A3 bs.length c3)).setCell ⟨gm, 4, none⟩ (.slice A4 ts.length c4))) (five_blk Bgm.out (.string nm) (.slice A1 fs.length c1) (.int .i64 outs) (.slice A3 bs.length c3) (.slice A4 ts.length c4)); have he8 := blk5 (w := (((((w5.setCell ⟨gm, 0, none⟩ (.string nm)).setCell ⟨gm, 1, none⟩ (.slice A1 fs.length c1)).setCell ⟨gm, 2, none⟩ (.int .i64 outs)).setCell ⟨gm, 3, none⟩ (.slice A3 bs.length c3)).setCell ⟨gm, 4, none⟩ (.slice A4 ts.length c4))) ((five_far NM.out (.string nm) (.slice A1 fs.length c1) (.int .i64 outs) (.slice A3 bs.length c3) (.slice A4 ts.length c4)).trans Bge.out)) | (go_at_call 6; have mM1_ := Aside0.mk (R_five M1.out Bgm.out (by decide) (.string nm) (.slice A1 fs.length c1) (.int .i64 outs) (.slice A3 bs.length c3) (.slice A4 ts.length c4)); have mM3_ := Aside0.mk (R_five M3.out Bgm.out (by decide) (.string nm) (.slice A1 fs.length c1) (.int .i64 outs) (.slice A3 bs.length c3) (.slice A4 ts.length c4)); have mM4_ := Aside0.mk (R_five M4.out Bgm.out (by decide) (.string nm) (.slice A1 fs.length c1) (.int .i64 outs) (.slice A3 bs.length c3) (.slice A4 ts.length c4)); have mBge_ := Aside0.mk ((five_far NM.out (.string nm) (.slice A1 fs.length c1) (.int .i64 outs) (.slice A3 bs.length c3) (.slice A4 ts.length c4)).trans Bge.out); have mHB_ := Aside0.mk (below_five HB.out GM.out (.string nm) (.slice A1 fs.length c1) (.int .i64 outs) (.slice A3 bs.length c3) (.slice A4 ts.length c4)); clear M1 M3 M4 Bge HB; have M1 := mM1_; have M3 := mM3_; have M4 := mM4_; have Bge := mBge_; have HB := mHB_; clear mM1_ mM3_ mM4_ mBge_ mHB_; have hV_ := rules_Valid.calls nm A1 c1 fs outs A3 c3 bs A4 c4 (ts.map f) shapeV _ ⟨(Kd.R_reads' M1.out).2.2⟩ hsz ⟨(Kd.R_reads' M3.out).2.2⟩ ⟨(Kd.R_reads' M4.out).2.2⟩ ⟨tab_below htab.out HB.out⟩ hshm 0 0 0 HCM; rw [List.length_map] at hV_; refine hV_.mono ?_; clear hV_; rintro e w6 ⟨rfl, hb⟩; clear hm hm8 he8 M1 M3 M4 Bgm; have mBge_ := Aside0.mk (blk_below Bge.out hb); have mHB_ := Aside0.mk (below_step HB.out hb); clear Bge HB; have Bge := mBge_; have HB := mHB_; clear mBge_ mHB_; clear hb; have he := blk5 (w := w6) Bge.out) | (go_at_call 8; refine (thicketref07_Copy.calls kc nm AF cF fs outs AB cB bs AT cT ts nm fs outs bs ts _ (Kd.C_below hfs.out (kB0 HB)) hcap.out.1 (Kd.C_below hbs.out (kB0 HB)) hcap.out.2.1 (Kd.C_below hts.out (kB0 HB)) hcap.out.2.2 HCP.out).mono ?_; rintro e w7 ⟨v1, v3, v4, rfl, R1, R3, R4, hb⟩; obtain ⟨B1, d1, rfl, _, _⟩ := Kd.R_reads R1; obtain ⟨B3, d3, rfl, _, _⟩ := Kd.R_reads R3; obtain ⟨B4, d4, rfl, _, _⟩ := Kd.R_reads R4; have F3 := Aside0.mk (Kd.R_lower R3 (below_size (kB0 HB))); clear R1 R3 R4; have mBge_ := Aside0.mk (blk_below Bge.out hb); have mHB_ := Aside0.mk (below_step (kB0 HB) hb); clear Bge HB; have Bge := mBge_; have HB := mHB_; clear mBge_ mHB_; clear hb he; have he := blk5 (w := w7) Bge.out) | ((with_reducible refine gate_dst (N := 9) rfl ?_); refine box_event ?hg (N := 9) ?hd (cs := #[.string (⟨#[]⟩ : ByteArray), .slice none 0 0, .int .i64 0, .slice none 0 0, .slice none 0 0]) (t := 26) ?hr ?_; (case hd => rfl); (case hg => rfl); (case hr => first | (go_simp; done) | (go_simp; rfl)); intro gf hg w8 hbox hb; have GF := Aside0.mk (show w.heap.size ≤ gf by rw [hg]; exact below_size HB.out); have NF := Aside0.mk (show ge ≠ gf by rw [hg]; exact Nat.ne_of_lt (blk_lt Bge.out)); have mF3_ := Aside0.mk (Kd.R_below F3.out hb); have mBge_ := Aside0.mk (blk_below Bge.out hb); have mHB_ := Aside0.mk (below_step (kB0 HB) hb); clear F3 Bge HB; have F3 := mF3_; have Bge := mBge_; have HB := mHB_; clear mF3_ mBge_ mHB_; have Bgf := Aside0.mk hbox; clear hb hbox hg he; have hf := blk5 (w := w8) Bgf.out; have hf8 := blk5 (w := (((((w8.setCell ⟨gf, 0, none⟩ (.string nm)).setCell ⟨gf, 1, none⟩ (.slice B1 fs.length d1)).setCell ⟨gf, 2, none⟩ (.int .i64 outs)).setCell ⟨gf, 3, none⟩ (.slice B3 bs.length d3)).setCell ⟨gf, 4, none⟩ (.slice B4 ts.length d4))) (five_blk Bgf.out (.string nm) (.slice B1 fs.length d1) (.int .i64 outs) (.slice B3 bs.length d3) (.slice B4 ts.length d4)); have he8 := blk5 (w := ((((((w8.setCell ⟨gf, 0, none⟩ (.string nm)).setCell ⟨gf, 1, none⟩ (.slice B1 fs.length d1)).setCell ⟨gf, 2, none⟩ (.int .i64 outs)).setCell ⟨gf, 3, none⟩ (.slice B3 bs.length d3)).setCell ⟨gf, 4, none⟩ (.slice B4 ts.length d4)).setCell ⟨gf, 4, none⟩ (.slice none 0 0))) (blk_far (p := ⟨gf, 4, none⟩) ((five_far NF.out (.string nm) (.slice B1 fs.length d1) (.int .i64 outs) (.slice B3 bs.length d3) (.slice B4 ts.length d4)).trans Bge.out) NF.out (.slice none 0 0))))
  have Be9 := Aside0.mk (blk_far (p := ⟨gf, 4, none⟩) ((five_far NF.out (.string nm) (.slice B1 fs.length d1) (.int .i64 outs) (.slice B3 bs.length d3) (.slice B4 ts.length d4)).trans Bge.out) NF.out (.slice none 0 0))
  have Bf9 := Aside0.mk (show ((((((w8.setCell ⟨gf, 0, none⟩ (.string nm)).setCell ⟨gf, 1, none⟩ (.slice B1 fs.length d1)).setCell ⟨gf, 2, none⟩ (.int .i64 outs)).setCell ⟨gf, 3, none⟩ (.slice B3 bs.length d3)).setCell ⟨gf, 4, none⟩ (.slice B4 ts.length d4)).setCell ⟨gf, 4, none⟩ (.slice none 0 0)).heap[gf]? = some (.cells #[.string nm, .slice B1 fs.length d1, .int .i64 outs, .slice B3 bs.length d3, .slice none 0 0] 26 (0, 0)) from blk_put (five_blk Bgf.out (.string nm) (.slice B1 fs.length d1) (.int .i64 outs) (.slice B3 bs.length d3) (.slice B4 ts.length d4)) 4 (.slice none 0 0) rfl)
  have F39 := Aside0.mk (Kd.R_setB (R_five F3.out Bgf.out (by decide) (.string nm) (.slice B1 fs.length d1) (.int .i64 outs) (.slice B3 bs.length d3) (.slice B4 ts.length d4)) (five_blk Bgf.out (.string nm) (.slice B1 fs.length d1) (.int .i64 outs) (.slice B3 bs.length d3) (.slice B4 ts.length d4)) (by decide) 4 (.slice none 0 0))
  have HB9 := Aside0.mk (below_set (g := gf) (j := 4) (v := .slice none 0 0) (below_five HB.out GF.out (.string nm) (.slice B1 fs.length d1) (.int .i64 outs) (.slice B3 bs.length d3) (.slice B4 ts.length d4)) GF.out)
  clear hf hf8 he8 F3 Bge Bgf HB
  have hwn : IntKind.u64.wrap (ts.length : Int) = (ts.length : Int) := by have := HTL.out; rw [IntKind.wrap_u64]; omega
  rw [hwn]
  clear hwn
  go_loopg [11] (ts.length + 1) (fun kq v11 w' => ∃ (z : Int) (k : Nat) (A : Option Addr) (c : Nat), v11 = .int .u64 z ∧ Aside0 (z = k) ∧ Aside0 (k ≤ ts.length) ∧ Aside0 (ts.length - k < kq) ∧ Aside0 (Kd.N k37 37 w' w.heap.size (fun k => k ≠ gf) (.slice A (pickT ts ov r k).length c) (pickT ts ov r k)) ∧ Aside0 (Kd.R (Kd.int .i64) 2 w' w.heap.size (fun _ => True) (.slice B3 bs.length d3) bs) ∧ Aside0 (w'.heap[ge]? = some (.cells #[.string nm, .slice AF fs.length cF, .int .i64 outs, .slice AB bs.length cB, .slice AT ts.length cT] 26 (0, 0))) ∧ Aside0 (w'.heap[gf]? = some (.cells #[.string nm, .slice B1 fs.length d1, .int .i64 outs, .slice B3 bs.length d3, .slice A (pickT ts ov r k).length c] 26 (0, 0))) ∧ Aside0 (Below w.heap.size w w'))
  case atStart => exact ⟨0, 0, none, 0, rfl, ⟨rfl⟩, ⟨Nat.zero_le _⟩, ⟨by omega⟩, ⟨Kd.N_nil _ _ _ _ _⟩, F39, Be9, Bf9, HB9⟩
  case round =>
    clear F39 Be9 Bf9 HB9
    obtain ⟨z, k, A, c, rfl, hz, hk1, hk, NN, F3, Bge, Bgf, HB⟩ := hrel
    cases gk with
    | zero => exact absurd hk.out (by omega)
    | succ k1 =>
      obtain ⟨rfl⟩ := hz
      have hkk := hk1.out
      have he := blk5 (w := wr) Bge.out
      have hf := blk5 (w := wr) Bgf.out
      by_cases hend : k = ts.length
      · have cnd : decide ((k : Int) < (ts.length : Int)) = false := decide_eq_false (by omega)
        subst hend
        clear hkk
        go_wp2_with (first | (go_at_call 9; refine (thicketlaw08_names.calls kn (fs.length : Int) NL _ HNM.out).mono ?_; rintro e w10 ⟨v, rfl, R, hb⟩; obtain ⟨AN, cN, rfl, _, _⟩ := Kd.R_reads R; have NR := Aside0.mk R; have mNN_ := Aside0.mk (Kd.N_below NN.out hb); have mF3_ := Aside0.mk (Kd.R_below F3.out hb); have mBgf_ := Aside0.mk (blk_below Bgf.out hb); have mHB_ := Aside0.mk (below_step HB.out hb); clear NN F3 Bgf HB; have NN := mNN_; have F3 := mF3_; have Bgf := mBgf_; have HB := mHB_; clear mNN_ mF3_ mBgf_ mHB_; clear R hb he hf; have hf := blk5 (w := w10) Bgf.out; have hf8 := blk5 (w := w10.setCell ⟨gf, 1, none⟩ (.slice AN NL.length cN)) (show (w10.setCell ⟨gf, 1, none⟩ (.slice AN NL.length cN)).heap[gf]? = some (.cells #[.string nm, .slice AN NL.length cN, .int .i64 outs, .slice B3 bs.length d3, .slice A (pickT ts ov r ts.length).length c] 26 (0, 0)) from blk_put Bgf.out 1 (.slice AN NL.length cN) rfl)) | (go_at_call 6; have mNN_ := Aside0.mk (Kd.N_far (p := ⟨gf, 1, none⟩) NN.out (fun _ h => h) (.slice AN NL.length cN)); have mF3_ := Aside0.mk (Kd.R_setB F3.out Bgf.out (by decide) 1 (.slice AN NL.length cN)); have mNR_ := Aside0.mk (Kd.R_setB NR.out Bgf.out (by decide) 1 (.slice AN NL.length cN)); have mHB_ := Aside0.mk (below_set (g := gf) (j := 1) (v := (.slice AN NL.length cN)) HB.out GF.out); clear NN F3 NR HB; have NN := mNN_; have F3 := mF3_; have NR := mNR_; have HB := mHB_; clear mNN_ mF3_ mNR_ mHB_; refine (rules_Valid.calls nm AN cN NL outs B3 d3 bs A c (pickT ts ov r ts.length) shapeV _ ⟨(Kd.R_reads' NR.out).2.2⟩ hnsz ⟨(Kd.R_reads' F3.out).2.2⟩ ⟨(Kd.N_reads' NN.out).2.2⟩ ⟨tab_below htab.out HB.out⟩ hshf 0 0 0 HCF).mono ?_; rintro e w11 ⟨rfl, hb⟩; have mHB_ := Aside0.mk (below_step HB.out hb); clear HB; have HB := mHB_; clear mHB_; clear hb))
        go_ret
        exact ⟨rfl, kB0 HB⟩
      · have cnd : decide ((k : Int) < (ts.length : Int)) = true := decide_eq_true (by omega)
        have hlt : k < ts.length := by omega
        have HLT := Aside0.mk hlt
        obtain ⟨ii, hii'⟩ : ∃ ii : Nat, ii = (k + r) % ts.length := ⟨_, rfl⟩
        have hil : ii < ts.length := by rw [hii']; exact Nat.mod_lt _ (by omega)
        have hi := turn_eq (tn := tn) (k := k) (n := ts.length) (by omega) (by have := HTL.out; omega) hlt
        rw [← HR.out, ← hii'] at hi
        obtain ⟨hi2, hi3, p1, p2⟩ := small_ii hil HTL.out
        obtain ⟨ad, A2, c2, rfl, e0, e1, l2, g2⟩ := at_T37 hts.out (ii : Int) p1 p2
        obtain ⟨y, hy⟩ : ∃ y, y = rd_T37 ts (ii : Int) := ⟨_, rfl⟩
        rw [← hy] at e0 e1 l2 g2
        rw [Int.toNat_natCast] at e0 e1
        have L2 := Aside0.mk l2
        have G2 := Aside0.mk g2
        replace e0 := cellB' HB.out e0
        replace e1 := cellB' HB.out e1
        have p2' := p2
        have nn1 := eq_true hlt
        have nn2 := eq_true hil
        have nn4 : (ts.length = 0) = False := eq_false (Nat.ne_of_gt (Nat.lt_of_le_of_lt (Nat.zero_le _) hil))
        have nn5 : ts.length ≠ 0 := (Nat.ne_of_gt (Nat.lt_of_le_of_lt (Nat.zero_le _) hil))
        replace p1 := eq_true p1
        replace p2 := eq_true p2
        have hnz : ((ts.length : Int) = 0) = False := eq_false (Int.ne_of_gt (Int.lt_of_le_of_lt (Int.natCast_nonneg ii) p2'))
        by_cases ho : ii < ov.length
        · have cn2 : decide ((ii : Int) < (ov.length : Int)) = true := decide_eq_true (Int.ofNat_lt.2 ho)
          have nn3 := eq_true ho
          have p3 := eq_true (show (ii : Int) < (ov.length : Int) from Int.ofNat_lt.2 ho)
          obtain ⟨adO, rfl, eo⟩ := Kd.at_bool hov.out (ii : Int) (Int.natCast_nonneg _) (Int.ofNat_lt.2 ho)
          rw [Int.toNat_natCast] at eo
          replace eo := cellB' HB.out eo
          by_cases hsk : rdOf false ov (ii : Int) = true
          · have PK := Aside0.mk (show pickT ts ov r (k + 1) = pickT ts ov r k from if_pos (by rw [← hii']; simpa [rdOf] using hsk))
            rw [hsk] at eo
            clear hkk hend hlt hil hy g2 l2 ho hii' hsk p2'
            go_wp2
            go_roundg k1
            case measure => exact Nat.lt_succ_self _
            case rel => exact ⟨_, k + 1, A, c, rfl, ⟨small_kk HLT.out HTL.out⟩, ⟨HLT.out⟩, ⟨meas hk.out HLT.out⟩, ⟨by rw [PK.out]; exact NN.out⟩, F3, Bge, ⟨by rw [PK.out]; exact Bgf.out⟩, HB⟩
          · have PK := Aside0.mk (show pickT ts ov r k ++ [y] = pickT ts ov r (k + 1) by rw [hy, hii']; exact (if_neg (by rw [← hii']; simpa [rdOf] using hsk)).symm)
            replace hsk : rdOf false ov (ii : Int) = false := by simpa using hsk
            rw [hsk] at eo
            clear hkk hend hlt hil hy g2 l2 ho hii' hsk p2'
            go_wp2
            refine start_ (n := 11) (S := fun w' => w'.cell? ⟨gf, 4, none⟩ = some (.slice A (pickT ts ov r k).length c) ∧ w'.cell? ⟨ge, 4, none⟩ = some (.slice (some ad) ts.length cT) ∧ w'.cell? (ad.add (ii * 2)) = some (.int .i64 y.f0) ∧ w'.cell? ⟨(ad.add (ii * 2)).block, (ad.add (ii * 2)).off + 1, none⟩ = some (.slice A2 y.f1.length c2)) (ds := [8, 10]) #[false, false, false, false, false, false, false, false, false, false, false] (by kernel_rfl) rfl rfl ⟨((blk_cell (blk_drew Bgf.out) 4).trans rfl), ((blk_cell (blk_drew Bge.out) 4).trans rfl), e0, e1⟩ (fun hHeld => ?_)
            refine pure_ (i := 0) (N := some 61) (v := ?_) (a' := ?_) #[true, false, false, false, false, false, false, false, false, false, false] rfl rfl (by kernel_rfl) (fun _ _ _ h => h) (Or.inl ⟨by rfl, ?_⟩) ?_ ?_
            rotate_left
            · intro w'
              go_simp
              with_reducible rfl
            rotate_left
            · simp only [Act.put, List.setIfInBounds_toArray, List.set_cons_zero, List.set_cons_succ, i64_w, i32_w]
              rfl
            refine pure_ (i := 2) (N := some 63) (v := ?_) (a' := ?_) #[true, false, true, false, false, false, false, false, false, false, false] rfl rfl (by kernel_rfl) (fun _ _ _ h => h) (Or.inl ⟨by rfl, ?_⟩) ?_ ?_
            rotate_left
            · intro w'
              go_simp
              with_reducible rfl
            rotate_left
            · simp only [Act.put, List.setIfInBounds_toArray, List.set_cons_zero, List.set_cons_succ, i64_w, i32_w]
              rfl
            refine pure_ (i := 4) (N := some 65) (v := ?_) (a' := ?_) #[true, false, true, false, true, false, false, false, false, false, false] rfl rfl (by kernel_rfl) (fun _ _ _ h => h) (Or.inl ⟨by rfl, ?_⟩) ?_ ?_
            rotate_left
            · intro w'
              go_simp
              with_reducible rfl
            rotate_left
            · simp only [Act.put, List.setIfInBounds_toArray, List.set_cons_zero, List.set_cons_succ, i64_w, i32_w]
              rfl
            refine take_ (i := 1) (N := some 62) (v := ?_) (a' := ?_) #[true, true, true, false, true, false, false, false, false, false, false] rfl rfl (by kernel_rfl) (fun _ _ _ h => h) (Or.inl ⟨by rfl, ?_⟩) hHeld ?_ ?_
            rotate_left
            · rintro w' ⟨s0, s1, s2, s3⟩
              go_simp
              with_reducible rfl
            rotate_left
            · simp only [Act.put, List.setIfInBounds_toArray, List.set_cons_zero, List.set_cons_succ, i64_w, i32_w]
              rfl
            refine take_ (i := 3) (N := some 64) (v := ?_) (a' := ?_) #[true, true, true, true, true, false, false, false, false, false, false] rfl rfl (by kernel_rfl) (fun _ _ _ h => h) (Or.inl ⟨by rfl, ?_⟩) hHeld ?_ ?_
            rotate_left
            · rintro w' ⟨s0, s1, s2, s3⟩
              go_simp
              with_reducible rfl
            rotate_left
            · simp only [Act.put, List.setIfInBounds_toArray, List.set_cons_zero, List.set_cons_succ, i64_w, i32_w]
              rfl
            refine pure_ (i := 5) (N := some 66) (v := ?_) (a' := ?_) #[true, true, true, true, true, true, false, false, false, false, false] rfl rfl (by kernel_rfl) (fun _ _ _ h => h) (Or.inl ⟨by rfl, ?_⟩) ?_ ?_
            rotate_left
            · intro w'
              go_simp
              with_reducible rfl
            rotate_left
            · simp only [Act.put, List.setIfInBounds_toArray, List.set_cons_zero, List.set_cons_succ, i64_w, i32_w]
              rfl
            refine take_ (i := 6) (N := some 67) (v := ?_) (a' := ?_) #[true, true, true, true, true, true, true, false, false, false, false] rfl rfl (by kernel_rfl) (fun _ _ _ h => h) (Or.inl ⟨by rfl, ?_⟩) hHeld ?_ ?_
            rotate_left
            · rintro w' ⟨s0, s1, s2, s3⟩
              go_simp
              with_reducible rfl
            rotate_left
            · simp only [Act.put, List.setIfInBounds_toArray, List.set_cons_zero, List.set_cons_succ, i64_w, i32_w]
              rfl
            refine one_ (i := 7) (N := some 68) #[true, true, true, true, true, true, true, true, false, false, false] rfl rfl (by kernel_rfl) (by decide) (fun K hK => ?_)
            refine value_ (w1 := ?_) (v := ?_) (by rfl) rfl ?_ ?_
            rotate_left 2
            · go_simp
              constructor
              · rfl
              · rfl
            refine hK.out _ _ ⟨(cellB' (below_alloc (below_drew (Below.refl _ _)) _) hHeld.1), (cellB' (below_alloc (below_drew (Below.refl _ _)) _) hHeld.2.1), (cellB' (below_alloc (below_drew (Below.refl _ _)) _) hHeld.2.2.1), (cellB' (below_alloc (below_drew (Below.refl _ _)) _) hHeld.2.2.2)⟩ (fun hHeld => ?_)
            clear hK K
            refine norm_ (a' := ?_) ?_ ?_
            rotate_left
            · show Act.put _ (some 68) _ = _
              simp only [Act.put, List.setIfInBounds_toArray, List.set_cons_zero, List.set_cons_succ, i64_w, i32_w]
              rfl
            refine lastR_ (i := 8) (N := some 69) #[true, true, true, true, true, true, true, true, true, false, false] rfl rfl (by kernel_rfl) (by decide) (fun K hK => ?_)
            refine Kd.N_append_step (W := wr.drew) k37 (w0 := w) w.heap.size (by rfl) (.tmp 62) (.tmp 68) 24 37 (.agg #[.int .i64 0, .slice none 0 0]) 32 (by rfl) Tryd.underlying24 infoTreeC rfl (by decide) (by decide) (.slice A (pickT ts ov r k).length c) (pickT ts ov r k) y [.int .i64 y.f0, .slice A2 y.f1.length c2] (fun k => k ≠ gf) (fun k => k < w.heap.size) (by rfl) (by rfl) (k37_mkF wr.drew _ y L2.out (nodesF G2.out (below_drew HB.out))) (fun k hk => ⟨Nat.ne_of_lt (Nat.lt_of_lt_of_le hk GF.out), fun e_ => by have h1_ := Kd.N_base NN.out k e_.symm; have h2_ : k < w.heap.size := hk; omega⟩) (fun k hk => by have h1_ := blk_lt Bgf.out; have h2_ : wr.heap.size ≤ k := hk; omega) (Kd.N_drew NN.out) (below_drew HB.out) (below_size (below_drew HB.out)) (by have h1_ := pickT_length ts ov r k; have h2_ := HLT.out; have h3_ := HTL.out; omega) ?_
            intro v9 w9 ho hb hg hat
            rw [PK.out] at ho
            obtain ⟨A9, c9, e9⟩ := Kd.N_slice ho
            subst e9
            have Bgf9 := Aside0.mk (blk_grown (blk_drew Bgf.out) hg (Kd.N_ne NN.out Bgf.out (by decide)))
            have Bge9 := Aside0.mk (blk_grown (blk_drew Bge.out) hg (Kd.N_ne NN.out Bge.out (by decide)))
            have F39 := Aside0.mk (R_overN' (Kd.R_drew F3.out) (Kd.N_drew NN.out) (by decide) hg)
            have NN9 := Aside0.mk ho
            have HB9 := Aside0.mk hb
            have hf9 := blk5 (w := w9) Bgf9.out
            clear he hf e0 e1 ho hb hg hat hHeld Bgf Bge F3 NN HB
            refine hK.out _ _ ?_
            clear hK K
            refine norm_ (a' := ?_) ?_ ?_
            rotate_left
            · show Act.put _ (some 69) _ = _
              simp only [Act.put, List.setIfInBounds_toArray, List.set_cons_zero, List.set_cons_succ, i64_w, i32_w]
              rfl
            refine pure_ (i := 9) (N := some 70) (v := ?_) (a' := ?_) #[true, true, true, true, true, true, true, true, true, true, false] rfl rfl (by kernel_rfl) (fun _ _ _ h => h) (Or.inl ⟨by rfl, ?_⟩) ?_ ?_
            rotate_left
            · intro w'
              go_simp
              with_reducible rfl
            rotate_left
            · simp only [Act.put, List.setIfInBounds_toArray, List.set_cons_zero, List.set_cons_succ, i64_w, i32_w]
              rfl
            refine lastR_ (i := 10) (N := none) #[true, true, true, true, true, true, true, true, true, true, true] rfl rfl (by kernel_rfl) (by decide) (fun K hK => ?_)
            refine skipR_ (w1 := ?_) (by rfl) rfl ?_ ?_
            rotate_left
            · go_simp
              rfl
            refine hK.out _ _ ?_
            clear hK K
            refine done_ (by kernel_rfl) ?_
            have NNa := Aside0.mk (Kd.N_far (p := ⟨gf, 4, none⟩) NN9.out (fun _ h => h) (.slice A9 (pickT ts ov r (k + 1)).length c9))
            have F3a := Aside0.mk (Kd.R_setB F39.out Bgf9.out (by decide) 4 (.slice A9 (pickT ts ov r (k + 1)).length c9))
            have Bgea := Aside0.mk (blk_far (p := ⟨gf, 4, none⟩) Bge9.out NF.out (.slice A9 (pickT ts ov r (k + 1)).length c9))
            have Bgfa := Aside0.mk (show (w9.setCell ⟨gf, 4, none⟩ (.slice A9 (pickT ts ov r (k + 1)).length c9)).heap[gf]? = some (.cells #[.string nm, .slice B1 fs.length d1, .int .i64 outs, .slice B3 bs.length d3, .slice A9 (pickT ts ov r (k + 1)).length c9] 26 (0, 0)) from blk_put Bgf9.out 4 (.slice A9 (pickT ts ov r (k + 1)).length c9) rfl)
            have HBa := Aside0.mk (below_set (g := gf) (j := 4) (v := (.slice A9 (pickT ts ov r (k + 1)).length c9)) HB9.out GF.out)
            clear NN9 F39 Bge9 Bgf9 HB9 hf9
            go_wp2
            go_roundg k1
            case measure => exact Nat.lt_succ_self _
            case rel => exact ⟨_, k + 1, A9, c9, rfl, ⟨small_kk HLT.out HTL.out⟩, ⟨HLT.out⟩, ⟨meas hk.out HLT.out⟩, NNa, F3a, Bgea, Bgfa, HBa⟩
        · have cn2 : decide ((ii : Int) < (ov.length : Int)) = false := decide_eq_false (fun h_ => ho (Int.ofNat_lt.1 h_))
          have nn3 := eq_false ho
          have hsk : ¬ rdOf false ov (ii : Int) = true := by unfold rdOf; rw [Int.toNat_natCast, List.getD_eq_getElem?_getD, List.getElem?_eq_none (Nat.le_of_not_lt ho)]; simp
          have PK := Aside0.mk (show pickT ts ov r k ++ [y] = pickT ts ov r (k + 1) by rw [hy, hii']; exact (if_neg (by rw [← hii']; simpa [rdOf] using hsk)).symm)
          clear hkk hend hlt hil hy g2 l2 ho hii' hsk p2'
          go_wp2
          refine start_ (n := 11) (S := fun w' => w'.cell? ⟨gf, 4, none⟩ = some (.slice A (pickT ts ov r k).length c) ∧ w'.cell? ⟨ge, 4, none⟩ = some (.slice (some ad) ts.length cT) ∧ w'.cell? (ad.add (ii * 2)) = some (.int .i64 y.f0) ∧ w'.cell? ⟨(ad.add (ii * 2)).block, (ad.add (ii * 2)).off + 1, none⟩ = some (.slice A2 y.f1.length c2)) (ds := [8, 10]) #[false, false, false, false, false, false, false, false, false, false, false] (by kernel_rfl) rfl rfl ⟨((blk_cell (blk_drew Bgf.out) 4).trans rfl), ((blk_cell (blk_drew Bge.out) 4).trans rfl), e0, e1⟩ (fun hHeld => ?_)
          refine pure_ (i := 0) (N := some 61) (v := ?_) (a' := ?_) #[true, false, false, false, false, false, false, false, false, false, false] rfl rfl (by kernel_rfl) (fun _ _ _ h => h) (Or.inl ⟨by rfl, ?_⟩) ?_ ?_
          rotate_left
          · intro w'
            go_simp
            with_reducible rfl
          rotate_left
          · simp only [Act.put, List.setIfInBounds_toArray, List.set_cons_zero, List.set_cons_succ, i64_w, i32_w]
            rfl
          refine pure_ (i := 2) (N := some 63) (v := ?_) (a' := ?_) #[true, false, true, false, false, false, false, false, false, false, false] rfl rfl (by kernel_rfl) (fun _ _ _ h => h) (Or.inl ⟨by rfl, ?_⟩) ?_ ?_
          rotate_left
          · intro w'
            go_simp
            with_reducible rfl
          rotate_left
          · simp only [Act.put, List.setIfInBounds_toArray, List.set_cons_zero, List.set_cons_succ, i64_w, i32_w]
            rfl
          refine pure_ (i := 4) (N := some 65) (v := ?_) (a' := ?_) #[true, false, true, false, true, false, false, false, false, false, false] rfl rfl (by kernel_rfl) (fun _ _ _ h => h) (Or.inl ⟨by rfl, ?_⟩) ?_ ?_
          rotate_left
          · intro w'
            go_simp
            with_reducible rfl
          rotate_left
          · simp only [Act.put, List.setIfInBounds_toArray, List.set_cons_zero, List.set_cons_succ, i64_w, i32_w]
            rfl
          refine take_ (i := 1) (N := some 62) (v := ?_) (a' := ?_) #[true, true, true, false, true, false, false, false, false, false, false] rfl rfl (by kernel_rfl) (fun _ _ _ h => h) (Or.inl ⟨by rfl, ?_⟩) hHeld ?_ ?_
          rotate_left
          · rintro w' ⟨s0, s1, s2, s3⟩
            go_simp
            with_reducible rfl
          rotate_left
          · simp only [Act.put, List.setIfInBounds_toArray, List.set_cons_zero, List.set_cons_succ, i64_w, i32_w]
            rfl
          refine take_ (i := 3) (N := some 64) (v := ?_) (a' := ?_) #[true, true, true, true, true, false, false, false, false, false, false] rfl rfl (by kernel_rfl) (fun _ _ _ h => h) (Or.inl ⟨by rfl, ?_⟩) hHeld ?_ ?_
          rotate_left
          · rintro w' ⟨s0, s1, s2, s3⟩
            go_simp
            with_reducible rfl
          rotate_left
          · simp only [Act.put, List.setIfInBounds_toArray, List.set_cons_zero, List.set_cons_succ, i64_w, i32_w]
            rfl
          refine pure_ (i := 5) (N := some 66) (v := ?_) (a' := ?_) #[true, true, true, true, true, true, false, false, false, false, false] rfl rfl (by kernel_rfl) (fun _ _ _ h => h) (Or.inl ⟨by rfl, ?_⟩) ?_ ?_
          rotate_left
          · intro w'
            go_simp
            with_reducible rfl
          rotate_left
          · simp only [Act.put, List.setIfInBounds_toArray, List.set_cons_zero, List.set_cons_succ, i64_w, i32_w]
            rfl
          refine take_ (i := 6) (N := some 67) (v := ?_) (a' := ?_) #[true, true, true, true, true, true, true, false, false, false, false] rfl rfl (by kernel_rfl) (fun _ _ _ h => h) (Or.inl ⟨by rfl, ?_⟩) hHeld ?_ ?_
          rotate_left
          · rintro w' ⟨s0, s1, s2, s3⟩
            go_simp
            with_reducible rfl
          rotate_left
          · simp only [Act.put, List.setIfInBounds_toArray, List.set_cons_zero, List.set_cons_succ, i64_w, i32_w]
            rfl
          refine one_ (i := 7) (N := some 68) #[true, true, true, true, true, true, true, true, false, false, false] rfl rfl (by kernel_rfl) (by decide) (fun K hK => ?_)
          refine value_ (w1 := ?_) (v := ?_) (by rfl) rfl ?_ ?_
          rotate_left 2
          · go_simp
            constructor
            · rfl
            · rfl
          refine hK.out _ _ ⟨(cellB' (below_alloc (below_drew (Below.refl _ _)) _) hHeld.1), (cellB' (below_alloc (below_drew (Below.refl _ _)) _) hHeld.2.1), (cellB' (below_alloc (below_drew (Below.refl _ _)) _) hHeld.2.2.1), (cellB' (below_alloc (below_drew (Below.refl _ _)) _) hHeld.2.2.2)⟩ (fun hHeld => ?_)
          clear hK K
          refine norm_ (a' := ?_) ?_ ?_
          rotate_left
          · show Act.put _ (some 68) _ = _
            simp only [Act.put, List.setIfInBounds_toArray, List.set_cons_zero, List.set_cons_succ, i64_w, i32_w]
            rfl
          refine lastR_ (i := 8) (N := some 69) #[true, true, true, true, true, true, true, true, true, false, false] rfl rfl (by kernel_rfl) (by decide) (fun K hK => ?_)
          refine Kd.N_append_step (W := wr.drew) k37 (w0 := w) w.heap.size (by rfl) (.tmp 62) (.tmp 68) 24 37 (.agg #[.int .i64 0, .slice none 0 0]) 32 (by rfl) Tryd.underlying24 infoTreeC rfl (by decide) (by decide) (.slice A (pickT ts ov r k).length c) (pickT ts ov r k) y [.int .i64 y.f0, .slice A2 y.f1.length c2] (fun k => k ≠ gf) (fun k => k < w.heap.size) (by rfl) (by rfl) (k37_mkF wr.drew _ y L2.out (nodesF G2.out (below_drew HB.out))) (fun k hk => ⟨Nat.ne_of_lt (Nat.lt_of_lt_of_le hk GF.out), fun e_ => by have h1_ := Kd.N_base NN.out k e_.symm; have h2_ : k < w.heap.size := hk; omega⟩) (fun k hk => by have h1_ := blk_lt Bgf.out; have h2_ : wr.heap.size ≤ k := hk; omega) (Kd.N_drew NN.out) (below_drew HB.out) (below_size (below_drew HB.out)) (by have h1_ := pickT_length ts ov r k; have h2_ := HLT.out; have h3_ := HTL.out; omega) ?_
          intro v9 w9 ho hb hg hat
          rw [PK.out] at ho
          obtain ⟨A9, c9, e9⟩ := Kd.N_slice ho
          subst e9
          have Bgf9 := Aside0.mk (blk_grown (blk_drew Bgf.out) hg (Kd.N_ne NN.out Bgf.out (by decide)))
          have Bge9 := Aside0.mk (blk_grown (blk_drew Bge.out) hg (Kd.N_ne NN.out Bge.out (by decide)))
          have F39 := Aside0.mk (R_overN' (Kd.R_drew F3.out) (Kd.N_drew NN.out) (by decide) hg)
          have NN9 := Aside0.mk ho
          have HB9 := Aside0.mk hb
          have hf9 := blk5 (w := w9) Bgf9.out
          clear he hf e0 e1 ho hb hg hat hHeld Bgf Bge F3 NN HB
          refine hK.out _ _ ?_
          clear hK K
          refine norm_ (a' := ?_) ?_ ?_
          rotate_left
          · show Act.put _ (some 69) _ = _
            simp only [Act.put, List.setIfInBounds_toArray, List.set_cons_zero, List.set_cons_succ, i64_w, i32_w]
            rfl
          refine pure_ (i := 9) (N := some 70) (v := ?_) (a' := ?_) #[true, true, true, true, true, true, true, true, true, true, false] rfl rfl (by kernel_rfl) (fun _ _ _ h => h) (Or.inl ⟨by rfl, ?_⟩) ?_ ?_
          rotate_left
          · intro w'
            go_simp
            with_reducible rfl
          rotate_left
          · simp only [Act.put, List.setIfInBounds_toArray, List.set_cons_zero, List.set_cons_succ, i64_w, i32_w]
            rfl
          refine lastR_ (i := 10) (N := none) #[true, true, true, true, true, true, true, true, true, true, true] rfl rfl (by kernel_rfl) (by decide) (fun K hK => ?_)
          refine skipR_ (w1 := ?_) (by rfl) rfl ?_ ?_
          rotate_left
          · go_simp
            rfl
          refine hK.out _ _ ?_
          clear hK K
          refine done_ (by kernel_rfl) ?_
          have NNa := Aside0.mk (Kd.N_far (p := ⟨gf, 4, none⟩) NN9.out (fun _ h => h) (.slice A9 (pickT ts ov r (k + 1)).length c9))
          have F3a := Aside0.mk (Kd.R_setB F39.out Bgf9.out (by decide) 4 (.slice A9 (pickT ts ov r (k + 1)).length c9))
          have Bgea := Aside0.mk (blk_far (p := ⟨gf, 4, none⟩) Bge9.out NF.out (.slice A9 (pickT ts ov r (k + 1)).length c9))
          have Bgfa := Aside0.mk (show (w9.setCell ⟨gf, 4, none⟩ (.slice A9 (pickT ts ov r (k + 1)).length c9)).heap[gf]? = some (.cells #[.string nm, .slice B1 fs.length d1, .int .i64 outs, .slice B3 bs.length d3, .slice A9 (pickT ts ov r (k + 1)).length c9] 26 (0, 0)) from blk_put Bgf9.out 4 (.slice A9 (pickT ts ov r (k + 1)).length c9) rfl)
          have HBa := Aside0.mk (below_set (g := gf) (j := 4) (v := (.slice A9 (pickT ts ov r (k + 1)).length c9)) HB9.out GF.out)
          clear NN9 F39 Bge9 Bgf9 HB9 hf9
          go_wp2
          go_roundg k1
          case measure => exact Nat.lt_succ_self _
          case rel => exact ⟨_, k + 1, A9, c9, rfl, ⟨small_kk HLT.out HTL.out⟩, ⟨HLT.out⟩, ⟨meas hk.out HLT.out⟩, NNa, F3a, Bgea, Bgfa, HBa⟩
end
end Go.Proofs.YtpeiafamkajedaaDoor.FAll
