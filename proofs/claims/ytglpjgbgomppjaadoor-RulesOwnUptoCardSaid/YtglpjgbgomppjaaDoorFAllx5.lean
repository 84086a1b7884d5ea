-- written by fprint.sh, a program of ours over the kit's print: not by hand
import Derived.Test.YtglpjgbgomppjaaDoorFAllx0
namespace Go.Proofs.YtglpjgbgomppjaaDoor.FAll
open Go.RowKit Go.Proofs.YtglpjgbgomppjaaDoorW.PrintWords Go.Proofs.YtglpjgbgomppjaaDoorW.PrintLast Go.Proofs.YtglpjgbgomppjaaDoorW.PrintMore
attribute [local go_sem] feq_walk fne_walk flt_walk fle_walk fgt_walk fge_walk fint_walk fstore_walk run_f64bits max2_int min2_int max_two min_two max_three min_three max_four min_four   -- for this text's walks alone
set_option linter.unusedVariables false
set_option linter.unusedSimpArgs false
-- NOT PRINTED: function 31 (rules_tree)
-- NOT PRINTED: function 33 (limbs_Cmp)
-- NOT PRINTED: function 16 (rules_Check)
-- NOT PRINTED: function 17 (rules_Valid)
-- NOT PRINTED: function 15 (thicketlaw08_begins)
-- NOT PRINTED: function 4 (thicketlaw08_RulesRooms)
/-! ### thicketlaw08_names: function 7 -/
mutual
def thicketlaw08_names.l0 : Nat → Int → List ByteArray → Int → Option (List ByteArray)
 | 0, _, _, _ => none
 | k + 1, x0, x3, x4 => if x4 < x0 then (thicketlaw08_names.l1 k x0 x3 x4 (([102, 97, 97, 97, 97] : List Int)) x4 1) else (some x3)
def thicketlaw08_names.l1 : Nat → Int → List ByteArray → Int → List Int → Int → Int → Option (List ByteArray)
 | 0, _, _, _, _, _, _ => none
 | k + 1, x0, x3, x4, x5, x6, x7 => if x7 < 5 then (if 0 ≤ x7 then (if x7 < (x5.length : Int) then (thicketlaw08_names.l1 k x0 x3 x4 (x5.set (x7 : Int).toNat ((wrap64 (97 + (Int.tmod x6 20))) % 256)) (wrap64 (Int.tdiv x6 20)) (wrap64 (x7 + 1))) else (none)) else (none)) else (if x3.length < 8796093022208 then (thicketlaw08_names.l0 k x0 (x3 ++ [strOfNums x5]) (wrap64 (x4 + 1))) else (none))
end
def thicketlaw08_names.f (k : Nat) (a0 : Int) : Option (List ByteArray) := thicketlaw08_names.l0 k a0 ([] : List ByteArray) 0
theorem thicketlaw08_names.mono_l : ∀ k, (∀ y0 y1 y2, LeO (thicketlaw08_names.l0 k y0 y1 y2) (thicketlaw08_names.l0 (k + 1) y0 y1 y2)) ∧ (∀ y0 y1 y2 y3 y4 y5, LeO (thicketlaw08_names.l1 k y0 y1 y2 y3 y4 y5) (thicketlaw08_names.l1 (k + 1) y0 y1 y2 y3 y4 y5))
 | 0 => ⟨fun _ _ _ r h => by simp [thicketlaw08_names.l0] at h, fun _ _ _ _ _ _ r h => by simp [thicketlaw08_names.l1] at h⟩
 | k + 1 => by
  obtain ⟨ih0, ih1⟩ := thicketlaw08_names.mono_l k
  refine ⟨?_, ?_⟩
  ·intro y0 y1 y2
   unfold thicketlaw08_names.l0
   repeat' first
   | (with_reducible exact ih0 _ _ _)
   | (with_reducible exact ih1 _ _ _ _ _ _)
   | (with_reducible exact LeO.refl _)
   | (with_reducible exact LeO.none _)
   | (with_reducible refine LeO.ite ?_ ?_)
   | (with_reducible refine LeO.bind ?_ (fun _ => ?_))
   | exact ih0 _ _ _
   | exact ih1 _ _ _ _ _ _
   | exact LeO.none _
   | refine LeO.ite ?_ ?_
   | refine LeO.bind ?_ (fun _ => ?_)
  ·intro y0 y1 y2 y3 y4 y5
   unfold thicketlaw08_names.l1
   repeat' first
   | (with_reducible exact ih0 _ _ _)
   | (with_reducible exact ih1 _ _ _ _ _ _)
   | (with_reducible exact LeO.refl _)
   | (with_reducible exact LeO.none _)
   | (with_reducible refine LeO.ite ?_ ?_)
   | (with_reducible refine LeO.bind ?_ (fun _ => ?_))
   | exact ih0 _ _ _
   | exact ih1 _ _ _ _ _ _
   | exact LeO.none _
   | refine LeO.ite ?_ ?_
   | refine LeO.bind ?_ (fun _ => ?_)
theorem thicketlaw08_names.mono : ∀ a0 k, LeO (thicketlaw08_names.f k a0) (thicketlaw08_names.f (k + 1) a0) := by
 intro a0 k
 obtain ⟨ih0, ih1⟩ := thicketlaw08_names.mono_l k
 unfold thicketlaw08_names.f
 repeat' first
   | (with_reducible exact ih0 _ _ _)
   | (with_reducible exact ih1 _ _ _ _ _ _)
   | (with_reducible exact LeO.refl _)
   | (with_reducible exact LeO.none _)
   | (with_reducible refine LeO.ite ?_ ?_)
   | (with_reducible refine LeO.bind ?_ (fun _ => ?_))
   | exact ih0 _ _ _
   | exact ih1 _ _ _ _ _ _
   | exact LeO.none _
   | refine LeO.ite ?_ ?_
   | refine LeO.bind ?_ (fun _ => ?_)
set_option maxHeartbeats 8000000 in
set_option maxRecDepth 100000 in
theorem thicketlaw08_names.calls (k : Nat) (a0 : Int) (r : List ByteArray) (w : World) (h : thicketlaw08_names.f k a0 = some r) :
  Calls Tryd.prog 7 #[.int .i64 a0] w fun e w' => ∃ v0_ : Value, e = .returned (v0_) ∧ Kd.R Kd.string 9 w' w.heap.size (fun _ => True) v0_ r ∧ Below w.heap.size w w' := by
 have HB := Aside0.mk (Below.refl w.heap.size w)
 have H : (thicketlaw08_names.l0 k a0 ([] : List ByteArray) 0) = some r := h
 clear h
 have H' := Aside0.mk H
 clear H
 go_enter Tryd.func7, Tryd.ntmps7
 go_wp2
 go_loopg [3, 4] k (fun kq v3 v4 w' => ∃ (x3_1 : List ByteArray) (x4_1 : Int), v4 = .int .i64 x4_1 ∧ Aside0 (thicketlaw08_names.l0 kq a0 x3_1 x4_1 = some r) ∧ Aside0 (kq ≤ k) ∧ Aside0 (Kd.R Kd.string 9 w' w.heap.size (fun _ => True) v3 x3_1) ∧ Aside0 (Below w.heap.size w w'))
 case atStart => exact ⟨(([] : List ByteArray)), (0), kr, H', ⟨Nat.le_refl _⟩, ⟨by first | exact Kd.R_nil _ _ _ _ _ | exact Kd.N_nil _ _ _ _ _ | exact Kd.V_nil _ _ _ _ _ | exact Kd.Q_nil _ _ _ _ _ | exact Kd.S_nil _ _ _ _ _⟩, ⟨kB0 HB⟩⟩
 case round =>
  clear H'
  obtain ⟨x3_1, x4_1, rfl, HA, HK1, HO_3, HB⟩ := hrel
  cases gk with
  | zero => exact absurd HA.out (by simp [thicketlaw08_names.l0])
  | succ k1 =>
   have H := HA.out
   clear HA
   simp only [thicketlaw08_names.l0] at H
   by_cases c2 : x4_1 < a0
   ·rw [if_pos c2] at H
    have c2b0 : decide (x4_1 < a0) = true := decide_eq_true c2
    clear c2
    obtain ⟨y223, hy223⟩ : ∃ y_ : List Int, y_ = (([102, 97, 97, 97, 97] : List Int)) := ⟨_, rfl⟩
    replace H : (thicketlaw08_names.l1 k1 a0 x3_1 x4_1 y223 x4_1 1) = some r := by first | (rw [hy223]; with_reducible exact H) | (have H2_ := (Option.bind_some _ _).symm.trans H; rw [hy223]; with_reducible exact H2_) | (have H2_ := (Option.bind_some _ _).symm.trans H; with_reducible exact H2_) | with_reducible exact H | (rw [hy223]; exact H) | exact H
    have Ny223 := Aside0.mk hy223
    clear hy223
    have H' := Aside0.mk H
    clear H
    go_wp2_with (first | ((with_reducible refine gate_dst (N := 13) rfl ?_); refine Kd.R_lit (Kd.int .u8) _ 5 ?hg (N := 13) ?hd (xs := ([102, 97, 97, 97, 97] : List Int)) (inner := [.int .u8 102, .int .u8 97, .int .u8 97, .int .u8 97, .int .u8 97]) (ok := fun _ => True) (okp := fun _ => True) ?hr ?hp (fun _ hk => hk) trivial (Below.refl _ _) (Nat.le_refl _) (by simp) ?_; (case hd => rfl); (case hg => rfl); (case hr => first | (go_simp; done) | (go_simp; rfl)); (case hp => exact (Reps.one (show Kd.M (Kd.int .u8) _ _ _ 102 [.int .u8 102] from rfl) (Reps.one (show Kd.M (Kd.int .u8) _ _ _ 97 [.int .u8 97] from rfl) (Reps.one (show Kd.M (Kd.int .u8) _ _ _ 97 [.int .u8 97] from rfl) (Reps.one (show Kd.M (Kd.int .u8) _ _ _ 97 [.int .u8 97] from rfl) (Reps.one (show Kd.M (Kd.int .u8) _ _ _ 97 [.int .u8 97] from rfl) (Reps.none _ _))))))); intro v224 w3 ho4 hb hg_ hnew_; clear hg_ hnew_; (first | rw [← Ny223.out] at ho4 | (simp only [Int.reduceToNat] at ho4; rw [← Ny223.out] at ho4)); have n0_ := Aside0.mk (Kd.R_below (kR HO_3) hb); have n1_ := Aside0.mk (Kd.R_lower ho4 (below_size (kB0 HB))); have n2_ := Aside0.mk (below_step (kB0 HB) hb); clear HO_3; clear HB; have HO_3 := n0_; have HO225 := n1_; have HB := n2_; clear n0_ n1_ n2_; clear hb ho4))
    go_loopg [6, 7] k1 (fun kq v6 v7 w' => ∃ (x5_2 : List Int) (x6_2 : Int) (x7_2 : Int), v6 = .int .i64 x6_2 ∧ v7 = .int .i64 x7_2 ∧ Aside0 (thicketlaw08_names.l1 kq a0 x3_1 x4_1 x5_2 x6_2 x7_2 = some r) ∧ Aside0 (kq ≤ k1) ∧ Aside0 (Kd.R Kd.string 9 w' w.heap.size (fun _ => True) u3 x3_1) ∧ Aside0 (Kd.R (Kd.int .u8) 5 w' w.heap.size (fun _ => True) v224 x5_2) ∧ Aside0 (Below w.heap.size w w'))
    case atStart => exact ⟨(y223), (x4_1), (1), kr, kr, H', ⟨Nat.le_refl _⟩, ⟨kR HO_3⟩, ⟨kR HO225⟩, ⟨kB0 HB⟩⟩
    case round =>
     clear H'
     try clear c2
     try clear c2b0
     try clear p2
     obtain ⟨x5_2, x6_2, x7_2, rfl, rfl, HA, HK2, HO_3, HO_5, HB⟩ := hrel
     cases gk with
     | zero => exact absurd HA.out (by simp [thicketlaw08_names.l1])
     | succ k2 =>
      have H := HA.out
      clear HA
      simp only [thicketlaw08_names.l1] at H
      by_cases c5 : x7_2 < 5
      ·rw [if_pos c5] at H
       have c5b0 : decide (x7_2 < 5) = true := decide_eq_true c5
       clear c5
       by_cases c6 : 0 ≤ x7_2
       ·rw [if_pos c6] at H
        have c6b0 : decide (0 ≤ x7_2) = true := decide_eq_true c6
        clear c6
        by_cases c7 : x7_2 < (x5_2.length : Int)
        ·rw [if_pos c7] at H
         have c7b0 : decide (x7_2 < (x5_2.length : Int)) = true := decide_eq_true c7
         clear c7
         obtain ⟨y226, hy226⟩ : ∃ y_ : List Int, y_ = (x5_2.set (x7_2 : Int).toNat ((wrap64 (97 + (Int.tmod x6_2 20))) % 256)) := ⟨_, rfl⟩
         replace H : (thicketlaw08_names.l1 k2 a0 x3_1 x4_1 y226 (wrap64 (Int.tdiv x6_2 20)) (wrap64 (x7_2 + 1))) = some r := by first | (rw [hy226]; with_reducible exact H) | (have H2_ := (Option.bind_some _ _).symm.trans H; rw [hy226]; with_reducible exact H2_) | (have H2_ := (Option.bind_some _ _).symm.trans H; with_reducible exact H2_) | with_reducible exact H | (rw [hy226]; exact H) | exact H
         have Ny226 := Aside0.mk hy226
         clear hy226
         have H' := Aside0.mk H
         clear H
         have p8 : 0 ≤ (x7_2 : Int) := of_decide_eq_true ka
         have q8 : (x7_2 : Int) < ((x5_2.length : Int) : Int) := of_decide_eq_true ka
         obtain ⟨go8, co8, eo8, gb8, gl8, cl8, HG8⟩ := Kd.R_form HO_5.out (by omega)
         (first | cases eo8 | (injection eo8 with ea_ en_ ec_; (first | subst ea_ | (injection ea_ with ea_; subst ea_)); subst ec_; clear en_))
         have GB8 := Aside0.mk gb8
         have GG8 := Aside0.mk HG8
         clear gb8 gl8 HG8
         obtain ⟨hx8_0, hf8_0⟩ := Kd.R_celln 0 HO_5.out (x7_2 : Int) p8 q8
         replace p8 := eq_true p8
         replace q8 := eq_true q8
         have HP9 := Kd.R_putg HO_5.out (x7_2 : Int) ((wrap64 (97 + (Int.tmod x6_2 20))) % 256)
         go_wp2_with (first | ((with_reducible refine gate_store (t := 5) (p := 25) rfl ?_); refine store_event (t := 5) (p := 25) (v := ?vo_w10) (w1 := (wr.setCell ⟨go8, (x7_2 : Int).toNat, none⟩ (.int .u8 ((wrap64 (97 + (Int.tmod x6_2 20))) % 256)))) ?hg ?ho ?hn ?hr ?_; (case ho => rfl); (case hg => rfl); (case hn => rfl); (case hr => first | (go_simp; done) | (go_simp; rfl)); intro w10 hw; have hg : wr.grownBy w10 (some go8) := (by rw [hw]; exact HP9.2); have hp_ : Kd.R (Kd.int .u8) 5 w10 w.heap.size (fun _ => True) (.slice (some ⟨go8, 0, none⟩) x5_2.length co8) y226 := (by rw [hw, Ny226.out]; exact HP9.1); clear HP9; have n0_ := Aside0.mk (Kd.R_over' (v := (.slice (some ⟨go8, 0, none⟩) x5_2.length co8)) (kR HO_3) (Kd.R_typed HO_5.out) (by decide) hg); have n1_ := Aside0.mk (hp_); have n2_ := Aside0.mk ((by rw [hw]; exact below_set (HB.out) GB8.out : Below w.heap.size w w10)); clear HO_3; clear HO_5; clear HB; have HO_3 := n0_; have HO_5 := n1_; have HB := n2_; clear n0_ n1_ n2_; clear hg hw hp_))
         go_roundg k2
         case measure => have := HK1.out; have := HK2.out; omega
         case rel => exact ⟨(y226), (wrap64 (Int.tdiv x6_2 20)), (wrap64 (x7_2 + 1)), kr, kr, H', ⟨by have := HK1.out; have := HK2.out; omega⟩, ⟨kR HO_3⟩, ⟨kR HO_5⟩, ⟨kB0 HB⟩⟩
        ·rw [if_neg c7] at H
         exact absurd H (by simp)
       ·rw [if_neg c6] at H
        exact absurd H (by simp)
      ·rw [if_neg c5] at H
       have c5b0 : decide (x7_2 < 5) = false := decide_eq_false c5
       clear c5
       by_cases c11 : x3_1.length < 8796093022208
       ·rw [if_pos c11] at H
        have LMc11 := Aside0.mk c11
        clear c11
        obtain ⟨y227, hy227⟩ : ∃ y_ : List ByteArray, y_ = (x3_1 ++ [strOfNums x5_2]) := ⟨_, rfl⟩
        replace H : (thicketlaw08_names.l0 k2 a0 y227 (wrap64 (x4_1 + 1))) = some r := by first | (rw [hy227]; with_reducible exact H) | (have H2_ := (Option.bind_some _ _).symm.trans H; rw [hy227]; with_reducible exact H2_) | (have H2_ := (Option.bind_some _ _).symm.trans H; with_reducible exact H2_) | with_reducible exact H | (rw [hy227]; exact H) | exact H
        have Ny227 := Aside0.mk hy227
        clear hy227
        have H' := Aside0.mk H
        clear H
        have hcv12 := own_string (P := Tryd.prog) Tryd.underlying51 Tryd.underlying5 Tryd.underlying9 (Kd.own_of_R HO_5.out)
        go_wp2_with (first | ((with_reducible refine gate_builtin (b := .append) (xs := #[.tmp 28, .tmp 31]) rfl ?_); at_builtin; refine Kd.R_append Kd.string (w0 := w) w.heap.size rfl (.tmp 28) (.tmp 31) 22 9 (.string ⟨#[]⟩) 16 rfl Tryd.underlying22 info9 rfl (by decide) (by omega) u3 x3_1 (strOfNums x5_2) [.string (strOfNums x5_2)] (fun _ => True) (fun _ => False) rfl rfl ?aP (fun _ hk => hk.elim) ?aF ?aO ?aB ?aS ?aL ?_; (case aP => exact rfl); (case aB => exact (kB0 HB)); (case aF => exact (fun _ _ => trivial)); (case aO => exact (kR HO_3)); (case aS => exact (below_size (kB0 HB))); (case aL => have := LMc11.out; omega); intro v228 w13 ho hb hg hat; rw [← Ny227.out] at ho; have n0_ := Aside0.mk (Kd.R_over' (kR HO_5) (Kd.R_typed (kR HO_3)) (by decide) hg); have n1_ := Aside0.mk (hb); have n2_ := Aside0.mk (ho); clear HO_5; clear HB; clear HO_3; have HO_5 := n0_; have HB := n1_; have HO229 := n2_; clear n0_ n1_ n2_; clear ho hb hg hat))
        go_roundg k2
        case measure => have := HK1.out; have := HK2.out; omega
        case rel => exact ⟨(y227), (wrap64 (x4_1 + 1)), kr, H', ⟨by have := HK1.out; have := HK2.out; omega⟩, ⟨kR HO229⟩, ⟨kB0 HB⟩⟩
       ·rw [if_neg c11] at H
        exact absurd H (by simp)
   ·rw [if_neg c2] at H
    have c2b0 : decide (x4_1 < a0) = false := decide_eq_false c2
    clear c2
    obtain rfl := Option.some.inj H
    go_wp2
    go_ret
    exact ⟨_, by first | rfl | (simp [errW_none, errW_some] <;> rfl) | (simp [*, errW_none, errW_some] <;> rfl), by (with_reducible repeat (first | apply Kd.R_alloc | apply Kd.R_drewN | apply Kd.R_drew)); exact HO_3.out, kB0 HB⟩
-- NOT PRINTED: function 8 (thicketlaw08_at)
/-! ### thicketlaw08_comb: function 9 -/
def thicketlaw08_comb.l0 : Nat → Int → List (S40) → Int → Option (Int × (List (S40)))
 | 0, _, _, _ => none
 | k + 1, x0, x3, x4 => if (wrap64 (x4 + 1)) < x0 then ((some (([(⟨2, 0, 0, 4607182418800017408, ([] : List Int), 1, wrap64 ((wrap64 (2 * x4)) + 1), wrap64 ((wrap64 (2 * x4)) + 2)⟩ : S40), (⟨1, 1, 0, 0, ([] : List Int), 0, 0, 0⟩ : S40)] : List (S40)) : List (S40))).bind fun y233 => (if x3.length + y233.length < 1759218604441 then (thicketlaw08_comb.l0 k x0 (x3 ++ y233) (wrap64 (x4 + 1))) else (none))) else (if x3.length < 1759218604441 then (some (0, (x3 ++ [(⟨1, 1, 0, 0, ([] : List Int), 0, 0, 0⟩ : S40)]))) else (none))
def thicketlaw08_comb.f (k : Nat) (a0 : Int) : Option (Int × (List (S40))) := thicketlaw08_comb.l0 k a0 ([] : List (S40)) 0
theorem thicketlaw08_comb.mono_l : ∀ k, (∀ y0 y1 y2, LeO (thicketlaw08_comb.l0 k y0 y1 y2) (thicketlaw08_comb.l0 (k + 1) y0 y1 y2))
 | 0 => fun _ _ _ r h => by simp [thicketlaw08_comb.l0] at h
 | k + 1 => by
  have ih0 := thicketlaw08_comb.mono_l k
  ·intro y0 y1 y2
   unfold thicketlaw08_comb.l0
   repeat' first
   | (with_reducible exact ih0 _ _ _)
   | (with_reducible exact LeO.refl _)
   | (with_reducible exact LeO.none _)
   | (with_reducible refine LeO.ite ?_ ?_)
   | (with_reducible refine LeO.bind ?_ (fun _ => ?_))
   | exact ih0 _ _ _
   | exact LeO.none _
   | refine LeO.ite ?_ ?_
   | refine LeO.bind ?_ (fun _ => ?_)
theorem thicketlaw08_comb.mono : ∀ a0 k, LeO (thicketlaw08_comb.f k a0) (thicketlaw08_comb.f (k + 1) a0) := by
 intro a0 k
 have ih0 := thicketlaw08_comb.mono_l k
 unfold thicketlaw08_comb.f
 repeat' first
   | (with_reducible exact ih0 _ _ _)
   | (with_reducible exact LeO.refl _)
   | (with_reducible exact LeO.none _)
   | (with_reducible refine LeO.ite ?_ ?_)
   | (with_reducible refine LeO.bind ?_ (fun _ => ?_))
   | exact ih0 _ _ _
   | exact LeO.none _
   | refine LeO.ite ?_ ?_
   | refine LeO.bind ?_ (fun _ => ?_)
set_option maxHeartbeats 8000000 in
set_option maxRecDepth 100000 in
theorem thicketlaw08_comb.calls (k : Nat) (a0 : Int) (r1 : Int) (r2 : List (S40)) (w : World) (h : thicketlaw08_comb.f k a0 = some (r1, r2)) :
  Calls Tryd.prog 9 #[.int .i64 a0] w fun e w' => ∃ v1_ : Value, e = .returned (.agg #[.int .i64 r1, v1_]) ∧ Kd.N k40 40 w' w.heap.size (fun k_ => (w.heap.size ≤ k_)) v1_ r2 ∧ Below w.heap.size w w' := by
 have hu33 := Tryd.underlying33
 have hu40 := Tryd.underlying40
 have HB := Aside0.mk (Below.refl w.heap.size w)
 have H : (thicketlaw08_comb.l0 k a0 ([] : List (S40)) 0) = some (r1, r2) := h
 clear h
 have H' := Aside0.mk H
 clear H
 go_enter Tryd.func9, Tryd.ntmps9
 go_wp2_with (first | ((with_reducible refine gate_dst (N := 2) rfl ?_); refine box_event ?hg (N := 2) ?hd (cs := #[.int .i64 0, .slice none 0 0]) (t := 33) ?hr ?_; (case hd => rfl); (case hg => rfl); (case hr => first | (go_simp; done) | (go_simp; rfl)); intro gb232 hg w2 hbox hb; have n0_ := Aside0.mk (below_step (kB0 HB) hb); have n1_ := Aside0.mk (hbox); have n2_ := Aside0.mk ((kg hg (kB0 HB) : w.heap.size ≤ gb232)); have n3_ := Aside0.mk ((kg hg (kB0 HB) : w.heap.size ≤ gb232)); clear HB; have HB := n0_; have BK232 := n1_; have GW232 := n2_; have GE232 := n3_; clear n0_ n1_ n2_ n3_; clear hb hbox hg))
 go_loopg [3, 4] k (fun kq v3 v4 w' => ∃ (x3_1 : List (S40)) (x4_1 : Int), v4 = .int .i64 x4_1 ∧ Aside0 (thicketlaw08_comb.l0 kq a0 x3_1 x4_1 = some (r1, r2)) ∧ Aside0 (kq ≤ k) ∧ Aside0 (Kd.N k40 40 w' w.heap.size (fun k_ => (w.heap.size ≤ k_) ∧ k_ ≠ gb232) v3 x3_1) ∧ Aside0 (w'.heap[gb232]? = some (.cells #[.int .i64 0, (.slice none 0 0)] 33 (0, 0))) ∧ Aside0 (Below w.heap.size w w'))
 case atStart => exact ⟨(([] : List (S40))), (0), kr, H', ⟨Nat.le_refl _⟩, ⟨by first | exact Kd.S_nil _ _ _ _ _ | exact Kd.N_nil _ _ _ _ _ | exact Kd.V_nil _ _ _ _ _ | exact Kd.Q_nil _ _ _ _ _ | exact Kd.R_nil _ _ _ _ _⟩, ⟨kb BK232⟩, ⟨kB1 HB GE232⟩⟩
 case round =>
  clear H'
  try clear p2
  obtain ⟨x3_1, x4_1, rfl, HA, HK1, HO_3, BK232, HB⟩ := hrel
  cases gk with
  | zero => exact absurd HA.out (by simp [thicketlaw08_comb.l0])
  | succ k1 =>
   have H := HA.out
   clear HA
   simp only [thicketlaw08_comb.l0] at H
   by_cases c3 : (wrap64 (x4_1 + 1)) < a0
   ·rw [if_pos c3] at H
    have c3b0 : decide ((wrap64 (x4_1 + 1)) < a0) = true := decide_eq_true c3
    clear c3
    obtain ⟨y233, hy233⟩ : ∃ y_ : List (S40), y_ = (([(⟨2, 0, 0, 4607182418800017408, ([] : List Int), 1, wrap64 ((wrap64 (2 * x4_1)) + 1), wrap64 ((wrap64 (2 * x4_1)) + 2)⟩ : S40), (⟨1, 1, 0, 0, ([] : List Int), 0, 0, 0⟩ : S40)] : List (S40))) := ⟨_, rfl⟩
    replace H : (if x3_1.length + y233.length < 1759218604441 then (thicketlaw08_comb.l0 k1 a0 (x3_1 ++ y233) (wrap64 (x4_1 + 1))) else (none)) = some (r1, r2) := by first | (rw [hy233]; with_reducible exact H) | (have H2_ := (Option.bind_some _ _).symm.trans H; rw [hy233]; with_reducible exact H2_) | (have H2_ := (Option.bind_some _ _).symm.trans H; with_reducible exact H2_) | with_reducible exact H | (rw [hy233]; exact H) | exact H
    have Ny233 := Aside0.mk hy233
    clear hy233
    by_cases c4 : x3_1.length + y233.length < 1759218604441
    ·rw [if_pos c4] at H
     have LMc4 := Aside0.mk c4
     clear c4
     obtain ⟨y236, hy236⟩ : ∃ y_ : List (S40), y_ = (x3_1 ++ y233) := ⟨_, rfl⟩
     replace H : (thicketlaw08_comb.l0 k1 a0 y236 (wrap64 (x4_1 + 1))) = some (r1, r2) := by first | (rw [hy236]; with_reducible exact H) | (have H2_ := (Option.bind_some _ _).symm.trans H; rw [hy236]; with_reducible exact H2_) | (have H2_ := (Option.bind_some _ _).symm.trans H; with_reducible exact H2_) | with_reducible exact H | (rw [hy236]; exact H) | exact H
     have Ny236 := Aside0.mk hy236
     clear hy236
     have H' := Aside0.mk H
     clear H
     go_wp2_with (first | ((with_reducible refine gate_dst (N := 20) rfl ?_); refine Kd.N_lit k40 _ 40 ?hg (N' := 20) ?hd (xs := ([(⟨2, 0, 0, 4607182418800017408, ([] : List Int), 1, wrap64 ((wrap64 (2 * x4_1)) + 1), wrap64 ((wrap64 (2 * x4_1)) + 2)⟩ : S40), (⟨1, 1, 0, 0, ([] : List Int), 0, 0, 0⟩ : S40)] : List (S40))) (inner := [.int .u8 2, .int .i64 0, .int .i64 0, .float .f64 4607182418800017408, .slice none 0 0, .int .u8 1, .int .i64 (wrap64 ((wrap64 (2 * x4_1)) + 1)), .int .i64 (wrap64 ((wrap64 (2 * x4_1)) + 2)), .int .u8 1, .int .i64 1, .int .i64 0, .float .f64 0, .slice none 0 0, .int .u8 0, .int .i64 0, .int .i64 0]) (ok := (fun k_ => (w.heap.size ≤ k_) ∧ some k_ ≠ (u3 : Value).ownBlock ∧ k_ ≠ gb232)) (okp := (fun k_ => (w.heap.size ≤ k_) ∧ some k_ ≠ (u3 : Value).ownBlock ∧ k_ ≠ gb232)) ?hr ?hp (fun _ hk => hk) ((show ∀ k_, wr.heap.size ≤ k_ → (fun k_ => (w.heap.size ≤ k_) ∧ some k_ ≠ (u3 : Value).ownBlock ∧ k_ ≠ gb232) k_ from fun k_ hk => ⟨(Nat.le_trans (below_size (kB1 HB GE232)) hk), Kd.fresh' (Kd.N_lt (by (with_reducible repeat (first | apply Kd.N_alloc | apply Kd.N_drewN | apply Kd.N_drew)); exact HO_3.out)) k_ hk, Kd.freshB (g := gb232) (o := .cells #[.int .i64 0, .slice none 0 0] 33 (0, 0)) (kb BK232) k_ hk⟩) _ (Nat.le_refl _)) (Below.refl _ _) (Nat.le_refl _) (by simp) ?_; (case hd => rfl); (case hg => rfl); (case hr => first | (go_simp; done) | (go_simp; rfl)); (case hp => exact (Reps.c8 (show Kd.FK k40 _ _ (⟨2, 0, 0, 4607182418800017408, ([] : List Int), 1, wrap64 ((wrap64 (2 * x4_1)) + 1), wrap64 ((wrap64 (2 * x4_1)) + 2)⟩ : S40) [.int .u8 2, .int .i64 0, .int .i64 0, .float .f64 4607182418800017408, .slice none 0 0, .int .u8 1, .int .i64 (wrap64 ((wrap64 (2 * x4_1)) + 1)), .int .i64 (wrap64 ((wrap64 (2 * x4_1)) + 2))] from (k40_mkF _ _ (⟨2, 0, 0, 4607182418800017408, ([] : List Int), 1, wrap64 ((wrap64 (2 * x4_1)) + 1), wrap64 ((wrap64 (2 * x4_1)) + 2)⟩ : S40) (Nat.le_refl _) (Kd.F_nil _ _ _))) (Reps.c8 (show Kd.FK k40 _ _ (⟨1, 1, 0, 0, ([] : List Int), 0, 0, 0⟩ : S40) [.int .u8 1, .int .i64 1, .int .i64 0, .float .f64 0, .slice none 0 0, .int .u8 0, .int .i64 0, .int .i64 0] from (k40_mkF _ _ (⟨1, 1, 0, 0, ([] : List Int), 0, 0, 0⟩ : S40) (Nat.le_refl _) (Kd.F_nil _ _ _))) (Reps.none _ _)))); intro v234 w5 ho6 hb hg_ hnew_; clear hg_ hnew_; (first | rw [← Ny233.out] at ho6 | (simp only [Int.reduceToNat] at ho6; rw [← Ny233.out] at ho6)); have n0_ := Aside0.mk (Kd.N_elder' (by (with_reducible repeat (first | apply Kd.N_alloc | apply Kd.N_drewN | apply Kd.N_drew)); exact HO_3.out) (Kd.N_base ho6) hb); have n1_ := Aside0.mk (Kd.N_lower ho6 (below_size (kB1 HB GE232))); have n2_ := Aside0.mk (blk_below (g := gb232) (o := .cells #[.int .i64 0, .slice none 0 0] 33 (0, 0)) (kb BK232) hb); have n3_ := Aside0.mk (below_step (kB1 HB GE232) hb); clear HO_3; clear BK232; clear HB; have HO_3 := n0_; have HO235 := n1_; have BK232 := n2_; have HB := n3_; clear n0_ n1_ n2_ n3_; clear hb ho6; obtain ⟨Ao8, co8, eo8⟩ := Kd.N_slice HO235.out; subst eo8) | ((with_reducible refine gate_builtin (b := .append) (xs := #[.tmp 11, .tmp 20]) rfl ?_); at_builtin; refine Kd.N_append_rows k40 (w0 := w) w.heap.size rfl (.tmp 11) (.tmp 20) 31 40 (.agg #[(.int .u8 0), (.int .i64 0), (.int .i64 0), (.float .f64 0), (.slice none 0 0), (.int .u8 0), (.int .i64 0), (.int .i64 0)]) 80 rfl Tryd.underlying31 info40 rfl (by decide) (by omega) u3 x3_1 y233 _ _ _ (fun k_ => (w.heap.size ≤ k_) ∧ k_ ≠ gb232) (fun k_ => ((fun k_ => (w.heap.size ≤ k_) ∧ k_ ≠ gb232)) k_ ∧ some k_ ≠ (u3 : Value).ownBlock) rfl rfl ?aO ?aR (fun _ hk => hk) ?aF ?aB ?aS ?aL ?_; (case aR => exact (by skip; exact Kd.N_F (Kd.N_mono (ok' := (fun k_ => ((fun k_ => (w.heap.size ≤ k_) ∧ k_ ≠ gb232)) k_ ∧ some k_ ≠ (u3 : Value).ownBlock)) (HO235.out) (fun k_ hk => ⟨⟨hk.1, hk.2.2⟩, hk.2.1⟩)))); (case aB => exact (kB1 HB GE232)); (case aF => exact (fun k_ hk => ⟨(Nat.le_trans (below_size (kB1 HB GE232)) hk), Kd.freshB (g := gb232) (o := .cells #[.int .i64 0, .slice none 0 0] 33 (0, 0)) (kb BK232) k_ hk⟩)); (case aO => exact (by (with_reducible repeat (first | apply Kd.N_alloc | apply Kd.N_drewN | apply Kd.N_drew)); exact Kd.N_mono HO_3.out (fun _ hk => ⟨hk.1.1, hk.1.2⟩))); (case aS => exact (below_size (kB1 HB GE232))); (case aL => have := LMc4.out; omega); intro v237 w7 ho hb hg hat; rw [← Ny236.out] at ho; have n0_ := Aside0.mk (blk_grown (g := gb232) (o := .cells #[.int .i64 0, .slice none 0 0] 33 (0, 0)) (kb BK232) hg (Kd.N_ne HO_3.out BK232.out (by decide))); have n1_ := Aside0.mk (Kd.N_afterv (ok := (fun k_ => (w.heap.size ≤ k_) ∧ k_ ≠ gb232)) (by (with_reducible repeat (first | apply Kd.N_alloc | apply Kd.N_drewN | apply Kd.N_drew)); exact Kd.N_mono HO235.out (fun _ hk => ⟨⟨hk.1, hk.2.2⟩, hk.2.1⟩)) hg hat); have n2_ := Aside0.mk (hb); have n3_ := Aside0.mk (ho); clear BK232; clear HO235; clear HB; clear HO_3; have BK232 := n0_; have HO235 := n1_; have HB := n2_; have HO238 := n3_; clear n0_ n1_ n2_ n3_; clear ho hb hg hat))
     go_roundg k1
     case measure => have := HK1.out; omega
     case rel => exact ⟨(y236), (wrap64 (x4_1 + 1)), kr, H', ⟨by have := HK1.out; omega⟩, ⟨by (with_reducible repeat (first | apply Kd.N_alloc | apply Kd.N_drewN | apply Kd.N_drew)); exact HO238.out⟩, ⟨kb BK232⟩, ⟨kB1 HB GE232⟩⟩
    ·rw [if_neg c4] at H
     exact absurd H (by simp)
   ·rw [if_neg c3] at H
    have c3b0 : decide ((wrap64 (x4_1 + 1)) < a0) = false := decide_eq_false c3
    clear c3
    by_cases c9 : x3_1.length < 1759218604441
    ·rw [if_pos c9] at H
     have LMc9 := Aside0.mk c9
     clear c9
     obtain ⟨y239, hy239⟩ : ∃ y_ : List (S40), y_ = (x3_1 ++ [(⟨1, 1, 0, 0, ([] : List Int), 0, 0, 0⟩ : S40)]) := ⟨_, rfl⟩
     replace H : (some (0, y239)) = some (r1, r2) := by first | (rw [hy239]; with_reducible exact H) | (have H2_ := (Option.bind_some _ _).symm.trans H; rw [hy239]; with_reducible exact H2_) | (have H2_ := (Option.bind_some _ _).symm.trans H; with_reducible exact H2_) | with_reducible exact H | (rw [hy239]; exact H) | exact H
     have Ny239 := Aside0.mk hy239
     clear hy239
     simp only [Option.some.injEq, Prod.mk.injEq] at H
     obtain ⟨rfl, rfl⟩ := H
     go_wp2_with (first | ((with_reducible refine gate_builtin (b := .append) (xs := #[.tmp 22, .tmp 24]) rfl ?_); at_builtin; refine Kd.N_append k40 (w0 := w) w.heap.size rfl (.tmp 22) (.tmp 24) 31 40 (.agg #[(.int .u8 0), (.int .i64 0), (.int .i64 0), (.float .f64 0), (.slice none 0 0), (.int .u8 0), (.int .i64 0), (.int .i64 0)]) 80 rfl Tryd.underlying31 info40 rfl (by decide) (by omega) u3 x3_1 (⟨1, 1, 0, 0, ([] : List Int), 0, 0, 0⟩ : S40) [.int .u8 1, .int .i64 1, .int .i64 0, .float .f64 0, .slice none 0 0, .int .u8 0, .int .i64 0, .int .i64 0] (fun k_ => (w.heap.size ≤ k_) ∧ k_ ≠ gb232) (fun k_ => ((fun k_ => (w.heap.size ≤ k_) ∧ k_ ≠ gb232)) k_ ∧ some k_ ≠ (u3 : Value).ownBlock) rfl rfl ?aP (fun _ hk => hk) ?aF ?aO ?aB ?aS ?aL ?_; (case aP => exact (k40_mkF _ _ (⟨1, 1, 0, 0, ([] : List Int), 0, 0, 0⟩ : S40) (Nat.le_refl _) (Kd.F_nil _ _ _))); (case aB => exact (kB1 HB GE232)); (case aF => exact (fun k_ hk => ⟨(Nat.le_trans (below_size (kB1 HB GE232)) hk), Kd.freshB (g := gb232) (o := .cells #[.int .i64 0, .slice none 0 0] 33 (0, 0)) (kb BK232) k_ hk⟩)); (case aO => exact (by (with_reducible repeat (first | apply Kd.N_alloc | apply Kd.N_drewN | apply Kd.N_drew)); exact HO_3.out)); (case aS => exact (below_size (kB1 HB GE232))); (case aL => have := LMc9.out; omega); intro v240 w10 ho hb hg hat; rw [← Ny239.out] at ho; have n0_ := Aside0.mk (blk_grown (g := gb232) (o := .cells #[.int .i64 0, .slice none 0 0] 33 (0, 0)) (kb BK232) hg (Kd.N_ne HO_3.out BK232.out (by decide))); have n1_ := Aside0.mk (hb); have n2_ := Aside0.mk (ho); clear BK232; clear HB; clear HO_3; have BK232 := n0_; have HB := n1_; have HO241 := n2_; clear n0_ n1_ n2_; clear ho hb hg hat; obtain ⟨Ao11, co11, eo11⟩ := Kd.N_slice HO241.out; subst eo11; have hcz12 := blk2 (w := w10) BK232.out))
     refine bodyPost_ret (results_cell_row rfl _ _ gb232 33 #[.int .i64 0, .slice Ao11 y239.length co11] (0, 0) _ rfl (by (with_reducible repeat (first | refine blk_drewN ?_ _ | refine blk_drew ?_ | refine blk_alloc ?_ _)); refine blk_put (cs := #[.int .i64 0, .slice none 0 0]) ?_ 1 _ rfl; (with_reducible repeat (first | refine blk_drewN ?_ _ | refine blk_drew ?_ | refine blk_alloc ?_ _)); refine blk_put (cs := #[.int .i64 0, .slice none 0 0]) ?_ 0 _ rfl; (with_reducible repeat (first | refine blk_drewN ?_ _ | refine blk_drew ?_ | refine blk_alloc ?_ _)); exact BK232.out) Tryd.underlying33 rfl (by kernel_rfl)) rfl ?_
     exact ⟨_, by first | rfl | (simp [errW_none, errW_some] <;> rfl) | (simp [*, errW_none, errW_some] <;> rfl), by (with_reducible repeat (first | apply Kd.N_alloc | apply Kd.N_drewN | apply Kd.N_drew)); exact Kd.N_mono (Kd.N_far (p := ⟨gb232, 1, none⟩) (Kd.N_far (p := ⟨gb232, 0, none⟩) (Kd.N_mono HO241.out (fun k_ hk => (⟨hk, hk.2⟩ : _ ∧ k_ ≠ gb232))) (fun _ hk => hk.2) (.int .i64 0)) (fun _ hk => hk.2) (.slice Ao11 y239.length co11)) (fun _ hk => hk.1.1), kB1 HB GE232⟩
    ·rw [if_neg c9] at H
     exact absurd H (by simp)
-- NOT PRINTED: function 3 (thicketlaw08_RulesLimits)
-- NOT PRINTED: function 5 (thicketlaw08_RulesOwn)
end Go.Proofs.YtglpjgbgomppjaaDoor.FAll
