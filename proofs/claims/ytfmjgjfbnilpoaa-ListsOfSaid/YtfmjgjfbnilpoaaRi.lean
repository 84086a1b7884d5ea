/-
 Plain: the document's walks over a good tree: Order, Leaves, Count, below, Marks; its error is the program's.
-/
import Derived.Test.YtfmjgjfbnilpoaaUd
import Derived.Test.YtfmjgjfbnilpoaaFAllx7
namespace Go.Proofs.Ytfmjgjfbnilpoaa.FAll
open Go.RowKit YtfmjgjfbnilpoaaW.PrintWords YtfmjgjfbnilpoaaW.PrintLast YtfmjgjfbnilpoaaW.PrintMore BTree
set_option linter.unusedVariables false
set_option linter.unusedSimpArgs false
/-- Subtrees on a stack, the first on top. -/
def stackL (L : List BT) : List Int := (L.map fun T => (T.root : Int)).reverse
theorem stackL_len (L : List BT) : (stackL L).length = L.length := by unfold stackL; simp
theorem stackL_cons (T : BT) (L : List BT) : stackL (T :: L) = stackL L ++ [(T.root : Int)] := by unfold stackL; simp
theorem stackL_top (T : BT) (L : List BT) : rd (stackL (T :: L)) ((L.length : Nat) : Int) = (T.root : Int) := by
 rw [stackL_cons]
 unfold rd
 rw [Int.toNat_natCast, List.getD_eq_getElem?_getD, List.getElem?_append_right (by rw [stackL_len]; exact Nat.le_refl _), stackL_len, Nat.sub_self]
 rfl
theorem stackL_take (T : BT) (L : List BT) : (stackL (T :: L)).take L.length = stackL L := by
 rw [stackL_cons, List.take_left' (stackL_len L)]
theorem pre_pos (T : BT) : 1 ≤ T.pre.length := List.length_pos_of_mem T.root_mem
theorem preAll_len_ge : ∀ L : List BT, L.length ≤ (preAll L).length
 | [] => Nat.zero_le _
 | T :: L => by
  have h := preAll_len_ge L
  have h1 := pre_pos T
  show L.length + 1 ≤ (T.pre ++ preAll L).length
  rw [List.length_append]
  omega
theorem inc64 (n : Nat) (h : n ≤ 1759218604441) : wrap64 ((n : Int) + 1) = ((n + 1 : Nat) : Int) := by unfold wrap64; omega
theorem dec64 (n : Nat) (h : n ≤ 1759218604441) : wrap64 (((n + 1 : Nat) : Int) - 1) = (n : Int) := by unfold wrap64; omega
section
variable (t0 : Int) (ns : List S71) (ok : TreeFine ns)
include ok
theorem kids_here {i : Nat} {l r : BT} (h : Is ns.length (innN ns) (klN ns) (krN ns) (.node i l r)) : (rd_T71 ns (i : Int)).f0 ≠ 1 ∧ (rd_T71 ns (i : Int)).f6 = (l.root : Int) ∧ (rd_T71 ns (i : Int)).f7 = (r.root : Int) := by
 obtain ⟨hi, hin, hl, hr, _, _⟩ := h
 obtain ⟨k6, _, k7, _, k0⟩ := kids_of ok hi hin
 refine ⟨k0, ?_, ?_⟩
 ·rw [hl]; unfold klN; omega
 ·rw [hr]; unfold krN; omega
theorem leaf_here {i : Nat} (h : Is ns.length (innN ns) (klN ns) (krN ns) (.leaf i)) : (rd_T71 ns (i : Int)).f0 = 1 := by
 rcases right_kids (ok.fit i h.1) with h1 | ⟨h1, _⟩
 ·exact h1
 ·have h2 : innN ns i = true := by unfold innN innerB; rcases h1 with e | e <;> rw [e] <;> rfl
  rw [h.2] at h2
  cases h2
theorem order_ev : ∀ (m : Nat) (L : List BT) (x3 : List Int), (preAll L).length ≤ m → (∀ T ∈ L, Is ns.length (innN ns) (klN ns) (krN ns) T) → x3.length + (preAll L).length ≤ 1759218604441 → Ev (fun k => thicketref07_Order.l0 k x3 (stackL L) t0 ns) (x3 ++ (preAll L).map fun i : Nat => (i : Int)) := by
 intro m
 induction m with
 | zero =>
  intro L x3 hm _ _
  have hL : L = [] := List.eq_nil_of_length_eq_zero (by have := preAll_len_ge L; omega)
  subst hL
  refine Ev.step (f := fun k => _) (fun k => rfl) ?_
  refine evn (by decide) ?_
  refine eve (Ev.now _) ?_
  simp [preAll]
 | succ m ih =>
  intro L x3 hm hI hb
  cases L with
  | nil =>
   refine Ev.step (f := fun k => _) (fun k => rfl) ?_
   refine evn (by decide) ?_
   refine eve (Ev.now _) ?_
   simp [preAll]
  | cons T L =>
   have hl : (stackL (T :: L)).length = L.length + 1 := by rw [stackL_len]; rfl
   have hge := preAll_len_ge (T :: L)
   simp only [List.length_cons] at hge
   have hLL : L.length + 1 ≤ 1759218604441 := by omega
   have ew : wrap64 (((stackL (T :: L)).length : Int) - 1) = ((L.length : Nat) : Int) := by rw [hl]; exact dec64 _ (by omega)
   clear hge
   refine Ev.step (f := fun k => _) (fun k => rfl) ?_
   refine evp (by omega) ?_
   rw [ew, stackL_top, Int.toNat_natCast, stackL_take]
   refine evp (by omega) (evp (by omega) (evp (by omega) ?_))
   refine Ev.congr (fun k => Option.bind_some _ _) ?_
   refine evp (by omega) ?_
   refine Ev.congr (fun k => Option.bind_some _ _) ?_
   have hT := hI T List.mem_cons_self
   have hi : T.root < ns.length := Is.lt T hT T.root T.root_mem
   refine evp (by omega) (evp (by omega) ?_)
   cases T with
   | leaf i =>
    have e := preAll_leaf i L
    rw [e] at hm hb ⊢
    simp only [List.length_cons] at hm hb
    refine evp (leaf_here ns ok hT) ?_
    refine eve (ih L (x3 ++ [(i : Int)]) (by omega) (fun U hU => hI U (List.mem_cons_of_mem _ hU)) (by rw [List.length_append, List.length_singleton]; omega)) ?_
    simp
   | node i l r =>
    have e := preAll_node i l r L
    rw [e] at hm hb ⊢
    simp only [List.length_cons] at hm hb
    obtain ⟨k0, k6, k7⟩ := kids_here ns ok hT
    obtain ⟨_, _, _, _, h1, h2⟩ := hT
    refine evn k0 ?_
    refine Ev.congr (fun k => Option.bind_some _ _) ?_
    refine evp (by rw [stackL_len]; show L.length + 2 < _; omega) ?_
    have es : stackL L ++ [(rd_T71 ns ((BT.node i l r).root : Int)).f7, (rd_T71 ns ((BT.node i l r).root : Int)).f6] = stackL (l :: r :: L) := by
     rw [stackL_cons, stackL_cons, List.append_assoc, show (BT.node i l r).root = i from rfl, k6, k7]
     rfl
    rw [es]
    refine eve (ih (l :: r :: L) (x3 ++ [(i : Int)]) (by omega) (fun U hU => by
     rcases List.mem_cons.1 hU with rfl | hU
     ·exact h1
     ·rcases List.mem_cons.1 hU with rfl | hU
      ·exact h2
      ·exact hI U (List.mem_cons_of_mem _ hU)) (by rw [List.length_append, List.length_singleton]; omega)) ?_
    simp
theorem order_f {T : BT} (hT : TreeIs ns T) (hn : ns.length ≤ 1759218604441) : Ev (fun k => thicketref07_Order.f k t0 ns) (T.pre.map fun i : Nat => (i : Int)) := by
 have h := order_ev t0 ns ok (preAll [T]).length [T] [] (Nat.le_refl _) (fun U hU => by rw [List.mem_singleton.1 hU]; exact hT.is) (by have := hT.few; simp [preAll]; omega)
 have e : stackL [T] = [0] := by unfold stackL; simp [hT.root]
 rw [e] at h
 refine eve h ?_
 simp [preAll]
/-- How many leaves hang on a stack. -/
def outs : List BT → Nat
 | [] => 0
 | T :: L => T.outer.length + outs L
theorem below_ev : ∀ (m : Nat) (L : List BT) (n : Nat), (preAll L).length ≤ m → (∀ T ∈ L, Is ns.length (innN ns) (klN ns) (krN ns) T) → n + (preAll L).length ≤ 1759218604441 → Ev (fun k => thicketref13_below.l0 k (n : Int) (stackL L) t0 ns) ((n + outs L : Nat) : Int) := by
 intro m
 induction m with
 | zero =>
  intro L n hm _ _
  have hL : L = [] := List.eq_nil_of_length_eq_zero (by have := preAll_len_ge L; omega)
  subst hL
  refine Ev.step (f := fun k => _) (fun k => rfl) ?_
  refine evn (by decide) ?_
  exact eve (Ev.now _) rfl
 | succ m ih =>
  intro L n hm hI hb
  cases L with
  | nil =>
   refine Ev.step (f := fun k => _) (fun k => rfl) ?_
   refine evn (by decide) ?_
   exact eve (Ev.now _) rfl
  | cons T L =>
   have hl : (stackL (T :: L)).length = L.length + 1 := by rw [stackL_len]; rfl
   have hge := preAll_len_ge (T :: L)
   simp only [List.length_cons] at hge
   have hLL : L.length + 1 ≤ 1759218604441 := by omega
   have ew : wrap64 (((stackL (T :: L)).length : Int) - 1) = ((L.length : Nat) : Int) := by rw [hl]; exact dec64 _ (by omega)
   clear hge
   refine Ev.step (f := fun k => _) (fun k => rfl) ?_
   refine evp (by omega) ?_
   rw [ew, stackL_top, Int.toNat_natCast, stackL_take]
   have hT := hI T List.mem_cons_self
   have hi : T.root < ns.length := Is.lt T hT T.root T.root_mem
   refine evp (by omega) (evp (by omega) (evp (by omega) (evp (by omega) (evp (by omega) ?_))))
   refine Ev.congr (fun k => Option.bind_some _ _) ?_
   cases T with
   | leaf i =>
    have e := preAll_leaf i L
    rw [e] at hm hb
    simp only [List.length_cons] at hm hb
    refine evp (leaf_here ns ok hT) ?_
    have e2 := inc64 n (by omega)
    rw [e2]
    refine eve (ih L (n + 1) (by omega) (fun U hU => hI U (List.mem_cons_of_mem _ hU)) (by omega)) ?_
    show ((n + 1 + outs L : Nat) : Int) = ((n + (1 + outs L) : Nat) : Int)
    rw [Nat.add_assoc]
   | node i l r =>
    have e := preAll_node i l r L
    rw [e] at hm hb
    simp only [List.length_cons] at hm hb
    obtain ⟨k0, k6, k7⟩ := kids_here ns ok hT
    obtain ⟨_, _, _, _, h1, h2⟩ := hT
    refine evn k0 ?_
    refine Ev.congr (fun k => Option.bind_some _ _) ?_
    refine evp (by rw [stackL_len]; show L.length + 2 < _; omega) ?_
    have es : stackL L ++ [(rd_T71 ns ((BT.node i l r).root : Int)).f6, (rd_T71 ns ((BT.node i l r).root : Int)).f7] = stackL (r :: l :: L) := by
     rw [stackL_cons, stackL_cons, List.append_assoc, show (BT.node i l r).root = i from rfl, k6, k7]
     rfl
    rw [es]
    have ep : (preAll (r :: l :: L)).length = (preAll (l :: r :: L)).length := by simp [preAll]; omega
    refine eve (ih (r :: l :: L) n (by omega) (fun U hU => by
     rcases List.mem_cons.1 hU with rfl | hU
     ·exact h2
     ·rcases List.mem_cons.1 hU with rfl | hU
      ·exact h1
      ·exact hI U (List.mem_cons_of_mem _ hU)) (by omega)) ?_
    show ((n + (r.outer.length + (l.outer.length + outs L)) : Nat) : Int) = ((n + ((l.outer ++ r.outer).length + outs L) : Nat) : Int)
    rw [List.length_append, Nat.add_left_comm r.outer.length, Nat.add_assoc l.outer.length]
theorem below_f {T : BT} (hT : Is ns.length (innN ns) (klN ns) (krN ns) T) (hn : T.pre.length ≤ 1759218604441) : Ev (fun k => thicketref13_below.f k t0 ns (T.root : Int)) ((T.outer.length : Nat) : Int) := by
 have h := below_ev t0 ns ok (preAll [T]).length [T] 0 (Nat.le_refl _) (fun U hU => by rw [List.mem_singleton.1 hU]; exact hT) (by simp [preAll]; omega)
 refine eve h ?_
 simp [outs]
end
end Go.Proofs.Ytfmjgjfbnilpoaa.FAll
/-
 Plain: the document's Error is the program's fault; its Marks are the program's.
-/
namespace Go.Proofs.Ytfmjgjfbnilpoaa.FAll
open Go.RowKit YtfmjgjfbnilpoaaW.PrintWords YtfmjgjfbnilpoaaW.PrintLast YtfmjgjfbnilpoaaW.PrintMore BTree
set_option linter.unusedVariables false
set_option linter.unusedSimpArgs false
theorem rd_at {l : List Int} {i : Nat} (h : i < l.length) : rd l (i : Int) = l[i] := by
 unfold rd
 rw [Int.toNat_natCast, List.getD_eq_getElem?_getD, List.getElem?_eq_getElem h]
 rfl
theorem drop_rd {l : List Int} {i : Nat} (h : i < l.length) : l.drop i = rd l (i : Int) :: l.drop (i + 1) := by rw [rd_at h, List.drop_eq_getElem_cons h]
section
variable (t0 : Int) (ns : List S71)
theorem kind_ev (b : Bool) (os : List Int) (ho : ∀ o ∈ os, 0 ≤ o ∧ o < (ns.length : Int)) (hl : os.length ≤ 1759218604441) : ∀ (d i : Nat) (x8 : List Int), i + d = os.length → x8.length ≤ i →
  Ev (fun k => thicketref07_kind.l0 k b x8 os (os.length : Int) (i : Int) t0 ns) (x8 ++ (os.drop i).filter (fun o => ((rd_T71 ns o).f0 == 1) == b), 0) := by
 intro d
 induction d with
 | zero =>
  intro i x8 hi hx
  refine Ev.step (f := fun k => _) (fun k => rfl) ?_
  refine evn (by omega) ?_
  refine eve (Ev.now _) ?_
  rw [List.drop_eq_nil_of_le (by omega), List.filter_nil, List.append_nil]
 | succ d ih =>
  intro i x8 hi hx
  have hlt : i < os.length := by omega
  have hm := ho (rd os (i : Int)) (by rw [rd_at hlt]; exact List.getElem_mem hlt)
  have e1 := inc64 i (by omega)
  refine Ev.step (f := fun k => _) (fun k => rfl) ?_
  refine evp (by omega) (evp (by omega) (evp (by omega) (evp (by omega) (evp (by omega) ?_))))
  rw [e1, drop_rd hlt]
  by_cases h : (((rd_T71 ns (rd os (i : Int))).f0 == 1) == b) = true
  ·refine evp h (evp (by omega) ?_)
   refine eve (ih (i + 1) _ (by omega) (by rw [List.length_append, List.length_singleton]; omega)) ?_
   rw [List.filter_cons_of_pos (p := fun o => ((rd_T71 ns o).f0 == 1) == b) h, List.append_assoc]
   rfl
  ·refine evn h ?_
   refine eve (ih (i + 1) _ (by omega) (by omega)) ?_
   rw [List.filter_cons_of_neg (p := fun o => ((rd_T71 ns o).f0 == 1) == b) h]
theorem fits_ev (F : Int) (hl : ns.length ≤ 1759218604441) : ∀ (d i : Nat), i + d = ns.length → Ev (fun k => thicketref07_Fits.l0 k F ns (ns.length : Int) (i : Int)) (!(ns.drop i).any (farB F)) := by
 intro d
 induction d with
 | zero =>
  intro i hi
  refine Ev.step (f := fun k => _) (fun k => rfl) ?_
  refine evn (by omega) ?_
  refine eve (Ev.now _) ?_
  rw [List.drop_eq_nil_of_le (by omega)]
  rfl
 | succ d ih =>
  intro i hi
  have hlt : i < ns.length := by omega
  have e1 := inc64 i (by omega)
  refine Ev.step (f := fun k => _) (fun k => rfl) ?_
  refine evp (by omega) (evp (by omega) (evp (by omega) ?_))
  rw [e1, drop_cons_rdN ns i hlt, List.any_cons]
  by_cases h : (rd_T71 ns (i : Int)).f0 = 1
  ·refine evp h ?_
   refine eve (ih (i + 1) (by omega)) ?_
   rw [show farB F (rd_T71 ns (i : Int)) = false by unfold farB; rw [h]; rfl, Bool.false_or]
  ·refine evn h ?_
   by_cases h2 : (rd_T71 ns (i : Int)).f2 ≥ F
   ·refine evp h2 ?_
    refine eve (Ev.now _) ?_
    rw [show farB F (rd_T71 ns (i : Int)) = true by unfold farB; rw [bne_iff_ne.mpr h, decide_eq_true (show F ≤ _ from h2)]; rfl, Bool.true_or]
    rfl
   ·refine evn h2 ?_
    refine eve (ih (i + 1) (by omega)) ?_
    rw [show farB F (rd_T71 ns (i : Int)) = false by unfold farB; rw [decide_eq_false (show ¬ F ≤ _ from h2), Bool.and_false], Bool.false_or]
end
theorem leaves_outer {ns : List S71} {T : BT} (hT : TreeIs ns T) : (leavesL ns T).length = T.outer.length := by
 rw [pre_outer (n := ns.length) (inn := innN ns) (kl := klN ns) (kr := krN ns) _ hT.is]
 unfold leavesL took
 rw [List.length_map, BT.preD_fst]
 congr 1
 apply List.filter_congr
 intro i _
 cases innN ns i <;> rfl
theorem leaf_kind {ns : List S71} (ok : TreeFine ns) {i : Nat} (hi : i < ns.length) : ((rd_T71 ns (i : Int)).f0 == 1) = !innN ns i := by
 rcases right_kids (ok.fit i hi) with h1 | ⟨h1, _⟩
 ·unfold innN innerB
  rw [h1]
  rfl
 ·unfold innN innerB
  rcases h1 with e | e <;> rw [e] <;> rfl
theorem count_any (y : S53) (hn : y.f1.length ≤ 1759218604441) (hcats : ∀ x ∈ y.f1, x.f4.length ≤ 9223372036854775807) :
  ∃ n, Ev (fun k => thicketref13_Count.f k y.f0 y.f1) (n, if (shapeV y).1 ≠ 0 then (shapeV y).1 else if 4096 < (leavesL y.f1 (treeV y.f1)).length then 3 else 0) := by
 obtain ⟨ks, hks⟩ := shape07V y hn hcats
 have gs : Ev (fun k => thicketref07_Shape.f k y.f0 y.f1) (shapeV y) := Ev.of (fun k => thicketref07_Shape.mono _ _ k) hks
 by_cases h0 : (shapeV y).1 = 0
 ·have fine := ((shapeV_spec y hn hcats).2 h0).2
  have hT := treeV_is fine
  have hos : ∀ o ∈ (treeV y.f1).pre.map (fun i : Nat => (i : Int)), 0 ≤ o ∧ o < (y.f1.length : Int) := fun o ho => by
   obtain ⟨i, hi, rfl⟩ := List.mem_map.1 ho
   have := Is.lt _ hT.is i hi
   omega
  have hol : ((treeV y.f1).pre.map (fun i : Nat => (i : Int))).length ≤ 1759218604441 := by rw [List.length_map]; have := hT.few; omega
  have g1 := order_f y.f0 y.f1 fine hT hn
  have g2 := kind_ev y.f0 y.f1 true _ hos hol _ 0 [] (Nat.zero_add _) (Nat.zero_le _)
  have el : (([] : List Int) ++ (((treeV y.f1).pre.map (fun i : Nat => (i : Int))).drop 0).filter (fun o => ((rd_T71 y.f1 o).f0 == 1) == true)).length = (leavesL y.f1 (treeV y.f1)).length := by
   rw [leaves_outer hT, List.nil_append, List.drop_zero, List.filter_map, List.length_map, pre_outer (n := y.f1.length) (inn := innN y.f1) (kl := klN y.f1) (kr := krN y.f1) _ hT.is]
   congr 1
   apply List.filter_congr
   intro i hi
   show (((rd_T71 y.f1 (i : Int)).f0 == 1) == true) = _
   rw [leaf_kind fine (Is.lt _ hT.is i hi)]
   cases innN y.f1 i <;> rfl
  obtain ⟨lv, hlv⟩ : ∃ lv, lv = (([] : List Int) ++ (((treeV y.f1).pre.map (fun i : Nat => (i : Int))).drop 0).filter (fun o => ((rd_T71 y.f1 o).f0 == 1) == true)) := ⟨_, rfl⟩
  rw [← hlv] at g2 el
  have g3 : Ev (fun k => thicketref07_kind.f k y.f0 y.f1 true) (lv, 0) := Ev.bind gs (evp h0 (Ev.bind g1 g2))
  have g4 : Ev (fun k => thicketref07_Leaves.f k y.f0 y.f1) (lv, 0) := Ev.bind g3 (Ev.now _)
  rw [if_neg (fun e => e h0)]
  by_cases h1 : 4096 < (leavesL y.f1 (treeV y.f1)).length
  ·rw [if_pos h1]
   exact ⟨0, Ev.bind g4 (evp rfl (evp (by show ((lv.length : Nat) : Int) > 4096; omega) (Ev.now _)))⟩
  ·rw [if_neg h1]
   exact ⟨(lv.length : Int), Ev.bind g4 (evp rfl (evn (by show ¬ ((lv.length : Nat) : Int) > 4096; omega) (Ev.now _)))⟩
 ·have g3 : Ev (fun k => thicketref07_kind.f k y.f0 y.f1 true) (([] : List Int), (shapeV y).1) := Ev.bind gs (evn h0 (Ev.now _))
  have g4 : Ev (fun k => thicketref07_Leaves.f k y.f0 y.f1) (([] : List Int), (shapeV y).1) := Ev.bind g3 (Ev.now _)
  rw [if_pos h0]
  exact ⟨0, Ev.bind g4 (evn h0 (Ev.now _))⟩
theorem error_l0 (F : Int) (ts : List S53) (hs : SmallT ts) (hs2 : ∀ y ∈ ts, y.f1.length ≤ 1759218604441) (hl : ts.length ≤ 65536) : ∀ (d i : Nat), i + d = ts.length → Ev (fun k => thicketref14_Error.l0 k ts F (i : Int)) (faultL F (ts.drop i)) := by
 intro d
 induction d with
 | zero =>
  intro i hi
  refine Ev.step (f := fun k => _) (fun k => rfl) ?_
  refine evn (by omega) ?_
  rw [List.drop_eq_nil_of_le (by omega)]
  exact Ev.now _
 | succ d ih =>
  intro i hi
  have hlt : i < ts.length := by omega
  have hm := rdT_mem ts i hlt
  obtain ⟨y, hy⟩ : ∃ y, y = rd_T53 ts (i : Int) := ⟨_, rfl⟩
  have e1 := inc64 i (by omega)
  rw [drop_cons_rd ts i hlt]
  rw [← hy] at hm ⊢
  obtain ⟨n, hc⟩ := count_any y (hs2 y hm) (fun x hx => hs.cats y hm x hx)
  have hF := fits_ev y.f1 F (hs2 y hm) y.f1.length 0 (Nat.zero_add _)
  rw [List.drop_zero] at hF
  refine Ev.step (f := fun k => _) (fun k => rfl) ?_
  refine evp (by omega) (evp (by omega) ?_)
  rw [e1, ← hy]
  obtain ⟨cv, hcv⟩ : ∃ cv, cv = (if (shapeV y).1 ≠ 0 then (shapeV y).1 else if 4096 < (leavesL y.f1 (treeV y.f1)).length then (3 : Int) else 0) := ⟨_, rfl⟩
  rw [← hcv] at hc
  have hft : faultT F y = if cv ≠ 0 then cv else if y.f1.any (farB F) = true then 72 else 0 := by
   unfold faultT
   rw [hcv]
   by_cases h0 : (shapeV y).1 = 0 <;> by_cases h1 : 4096 < (leavesL y.f1 (treeV y.f1)).length <;> simp [h0, h1]
  have hfl : faultL F (y :: ts.drop (i + 1)) = if faultT F y ≠ 0 then faultT F y else faultL F (ts.drop (i + 1)) := rfl
  rw [hfl]
  refine Ev.bind hc ?_
  by_cases hz : cv = 0
  ·rw [if_neg (fun e => e hz)] at hft
   refine evp hz (Ev.bind hF ?_)
   by_cases h2 : y.f1.any (farB F) = true
   ·rw [if_pos h2] at hft
    rw [hft, if_pos (by decide)]
    refine evn (by rw [h2]; decide) (Ev.now _)
   ·rw [if_neg h2] at hft
    rw [hft, if_neg (fun e => e rfl)]
    refine evp (by rw [Bool.not_eq_true] at h2; rw [h2]; rfl) (ih (i + 1) (by omega))
  ·rw [if_pos hz] at hft
   rw [hft, if_pos hz]
   exact evn hz (Ev.now _)
theorem error_j0 (F : Int) (ts : List S53) (b : Bool) (r : Int) (h : Ev (fun k => if b = true then some 2 else (if (ts.length : Int) > 65536 then some 3 else thicketref14_Error.l0 k ts F 0)) r) : Ev (fun k => thicketref14_Error.j0 k ts F b) r := Ev.step (f := fun k => if b = true then some 2 else (if (ts.length : Int) > 65536 then some 3 else thicketref14_Error.l0 k ts F 0)) (fun k => rfl) h
theorem error_f (F : Int) (ts : List S53) (hs : SmallT ts) (hs2 : ∀ y ∈ ts, y.f1.length ≤ 1759218604441) : ∃ k, thicketref14_Error.f k ts F = some (faultV F ts) := by
 refine Ev.rounds ?_
 unfold faultV
 by_cases h1 : F < 0
 ·rw [if_pos (.inl h1)]
  refine evp h1 (error_j0 F ts true 2 ?_)
  simp only [if_true]
  exact Ev.now _
 ·refine evn h1 ?_
  by_cases h2 : F > 65536
  ·rw [if_pos (.inr h2), decide_eq_true h2]
   refine error_j0 F ts true 2 ?_
   simp only [if_true]
   exact Ev.now _
  ·rw [if_neg (by omega), decide_eq_false h2]
   refine error_j0 F ts false _ ?_
   refine evn (by decide) ?_
   by_cases h3 : 65536 < ts.length
   ·rw [if_pos h3]
    exact evp (by omega) (Ev.now _)
   ·rw [if_neg h3]
    exact evn (by omega) (error_l0 F ts hs hs2 (by omega) ts.length 0 (Nat.zero_add _))
end Go.Proofs.Ytfmjgjfbnilpoaa.FAll
/-
 Plain: the document's Marks of a good tree are the program's.
-/
namespace Go.Proofs.Ytfmjgjfbnilpoaa.FAll
open Go.RowKit YtfmjgjfbnilpoaaW.PrintWords YtfmjgjfbnilpoaaW.PrintLast YtfmjgjfbnilpoaaW.PrintMore BTree
set_option linter.unusedVariables false
set_option linter.unusedSimpArgs false
theorem rd_set_other (l : List Int) (a : Nat) (v : Int) (b : Nat) (h : b ≠ a) : rd (l.set a v) (b : Int) = rd l (b : Int) := by
 unfold rd
 rw [Int.toNat_natCast, List.getD_eq_getElem?_getD, List.getD_eq_getElem?_getD, List.getElem?_set_ne (Ne.symm h)]
theorem rd_set_same (l : List Int) (a : Nat) (v : Int) (h : a < l.length) : rd (l.set a v) (a : Int) = v := by
 unfold rd
 rw [Int.toNat_natCast, List.getD_eq_getElem?_getD, List.getElem?_set_self h]
 rfl
theorem BT.pre_count : ∀ T : BT, T.pre.length = T.outer.length + T.inner.length
 | .leaf _ => rfl
 | .node i l r => by
  have := BT.pre_count l
  have := BT.pre_count r
  simp only [BT.pre, BT.outer, BT.inner, List.length_cons, List.length_append]
  omega
theorem mem_preAll : ∀ (LF : List (BT × Nat)) (q : BT × Nat), q ∈ LF → q.1.root ∈ preAll (LF.map Prod.fst)
 | [], q, h => absurd h List.not_mem_nil
 | a :: L, q, h => by
  show q.1.root ∈ a.1.pre ++ preAll (L.map Prod.fst)
  rcases List.mem_cons.1 h with rfl | h
  ·exact List.mem_append_left _ q.1.root_mem
  ·exact List.mem_append_right _ (mem_preAll L q h)
theorem le_two {f a o b n N : Nat} (h : f + n ≤ N) (hp : a + b + 1 = n) (ho : o ≤ a) : f + a ≤ N ∧ f + o + b ≤ N := by omega
theorem wrap_two {f o n : Nat} (h : f + n ≤ 1759218604441) (ho : o ≤ n) : wrap64 ((f : Int) + ((o : Nat) : Int)) = ((f + o : Nat) : Int) := by unfold wrap64; omega
theorem marks_succ (k : Nat) (x6 : List Int) (x7 : List S58) (x25 : List Int) (x26 x27 x287000 : Int) (x287001 : List S71) : thicketref13_Marks.l0 (k + 1) x6 x7 x25 x26 x27 x287000 x287001 = if x27 < x26 then (if 0 ≤ x27 then (if x27 < (x25.length : Int) then (if 0 ≤ (rd x25 x27) then (if (rd x25 x27) < (x287001.length : Int) then (if ((rd_T71 x287001 (rd x25 x27)).f0) = 1 then (thicketref13_Marks.l0 k x6 x7 x25 x26 (wrap64 (x27 + 1)) x287000 x287001) else ((thicketref13_below.f k x287000 x287001 ((rd_T71 x287001 (rd x25 x27)).f6)).bind fun t298 => (if (rd x25 x27) < (x6.length : Int) then (if x7.length < 5864062014805 then (if 0 ≤ ((rd_T71 x287001 (rd x25 x27)).f6) then (if ((rd_T71 x287001 (rd x25 x27)).f6) < (x6.length : Int) then ((some (x6.set (((rd_T71 x287001 (rd x25 x27)).f6) : Int).toNat (rd x6 (rd x25 x27)) : List Int)).bind fun y305 => (if 0 ≤ ((rd_T71 x287001 (rd x25 x27)).f7) then (if ((rd_T71 x287001 (rd x25 x27)).f7) < (x6.length : Int) then (thicketref13_Marks.l0 k (y305.set (((rd_T71 x287001 (rd x25 x27)).f7) : Int).toNat (wrap64 ((rd y305 (rd x25 x27)) + t298))) (x7 ++ [(⟨rd x25 x27, rd x6 (rd x25 x27), wrap64 ((rd x6 (rd x25 x27)) + t298)⟩ : S58)]) x25 x26 (wrap64 (x27 + 1)) x287000 x287001) else (none)) else (none))) else (none)) else (none)) else (none)) else (none)))) else (none)) else (none)) else (none)) else (none)) else (some (x7, 0)) := rfl
section
variable (t0 : Int) (ns : List S71) (ok : TreeFine ns)
include ok
theorem marks_ev (os : List Int) (hol : os.length ≤ 1759218604441) : ∀ (m : Nat) (LF : List (BT × Nat)) (x6 : List Int) (x7 : List S58) (i : Nat), (preAll (LF.map Prod.fst)).length ≤ m → i + (preAll (LF.map Prod.fst)).length = os.length → os.drop i = (preAll (LF.map Prod.fst)).map (fun j : Nat => (j : Int)) →
  (∀ p ∈ LF, Is ns.length (innN ns) (klN ns) (krN ns) p.1) → (preAll (LF.map Prod.fst)).Nodup → (∀ p ∈ LF, rd x6 (p.1.root : Int) = (p.2 : Int)) → (∀ p ∈ LF, p.2 + p.1.pre.length ≤ 1759218604441) → x6.length = ns.length → x7.length ≤ i →
  Ev (fun k => thicketref13_Marks.l0 k x6 x7 os (os.length : Int) (i : Int) t0 ns) (x7 ++ LF.flatMap (fun p => BT.marks p.1 p.2), 0) := by
 intro m
 induction m with
 | zero =>
  intro LF x6 x7 i hm hi hd hI hN hR hB h6 h7
  have hL : LF = [] := by
   have := preAll_len_ge (LF.map Prod.fst)
   rw [List.length_map] at this
   exact List.eq_nil_of_length_eq_zero (by omega)
  subst hL
  refine Ev.step (f := fun k => _) (fun k => rfl) ?_
  refine evn (by simp [preAll] at hi; omega) ?_
  refine eve (Ev.now _) ?_
  simp
 | succ m ih =>
  intro LF x6 x7 i hm hi hd hI hN hR hB h6 h7
  cases LF with
  | nil =>
   refine Ev.step (f := fun k => _) (fun k => rfl) ?_
   refine evn (by simp [preAll] at hi; omega) ?_
   refine eve (Ev.now _) ?_
   simp
  | cons p LF =>
   obtain ⟨T, f⟩ := p
   have hT := hI (T, f) List.mem_cons_self
   have hF := hR (T, f) List.mem_cons_self
   have hBT := hB (T, f) List.mem_cons_self
   simp only at hT hF hBT
   have hr : T.root < ns.length := Is.lt T hT T.root T.root_mem
   have hp1 : preAll (((T, f) :: LF).map Prod.fst) = T.pre ++ preAll (LF.map Prod.fst) := rfl
   obtain ⟨tl, htl⟩ : ∃ tl, T.pre = T.root :: tl := by cases T <;> exact ⟨_, rfl⟩
   rw [hp1, htl] at hd hi hm
   simp only [List.cons_append, List.map_cons, List.length_cons] at hd hi hm
   have hlt : i < os.length := by omega
   have hrd : rd os (i : Int) = (T.root : Int) := by
    rw [drop_rd hlt] at hd
    exact (List.cons.inj hd).1
   have hd2 : os.drop (i + 1) = (tl ++ preAll (LF.map Prod.fst)).map (fun j : Nat => (j : Int)) := by
    rw [drop_rd hlt] at hd
    exact (List.cons.inj hd).2
   have e1 := inc64 i (by omega)
   have c0 : (0 : Int) ≤ (i : Int) := Int.natCast_nonneg i
   have c1 : (i : Int) < (os.length : Int) := Int.ofNat_lt.mpr hlt
   have c2 : (0 : Int) ≤ (T.root : Int) := Int.natCast_nonneg _
   have c3 : (T.root : Int) < (ns.length : Int) := Int.ofNat_lt.mpr hr
   refine Ev.step (fun k => marks_succ k x6 x7 os (os.length : Int) (i : Int) t0 ns) ?_
   refine evp c1 (evp c0 (evp c1 ?_))
   obtain ⟨j, hj⟩ : ∃ j, j = T.root := ⟨_, rfl⟩
   rw [← hj] at hrd c2 c3
   rw [hrd, e1]
   refine evp c2 (evp c3 ?_)
   clear c0 c1 c2 c3
   cases T with
   | leaf j1 =>
    obtain rfl : j = j1 := hj
    obtain rfl : tl = [] := by simpa [BT.pre, BT.root] using htl.symm
    rw [List.nil_append] at hm hi hd2
    rw [hp1] at hN
    have a1 := (List.nodup_append.1 hN).2.1
    have a2 : (preAll (LF.map Prod.fst)).length ≤ m := Nat.le_of_succ_le_succ hm
    have a3 : i + 1 + (preAll (LF.map Prod.fst)).length = os.length := by omega
    have a4 : x7.length ≤ i + 1 := by omega
    have h := ih LF x6 x7 (i + 1) a2 a3 hd2 (fun q hq => hI q (List.mem_cons_of_mem _ hq)) a1 (fun q hq => hR q (List.mem_cons_of_mem _ hq)) (fun q hq => hB q (List.mem_cons_of_mem _ hq)) h6 a4
    refine evp (leaf_here ns ok hT) ?_
    exact h
   | node j1 l r =>
    obtain rfl : j = j1 := hj
    obtain rfl : tl = l.pre ++ r.pre := by simpa [BT.pre, BT.root] using htl.symm
    obtain ⟨k0, k6, k7⟩ := kids_here ns ok hT
    obtain ⟨hjn0, _, _, _, hl, hr2⟩ := hT
    have hlr := Is.lt l hl l.root l.root_mem
    have hrr := Is.lt r hr2 r.root r.root_mem
    simp only [BT.root] at hF
    have hpl : l.pre.length + r.pre.length + 1 = (BT.node j l r).pre.length := by simp [BT.pre]
    have hlo : l.outer.length ≤ l.pre.length := by rw [BT.pre_count l]; exact Nat.le_add_right _ _
    have hle := le_two hBT hpl hlo
    have hnd : (j :: (l.pre ++ r.pre ++ preAll (LF.map Prod.fst))).Nodup := hN
    obtain ⟨hjn, hnd2⟩ := List.nodup_cons.1 hnd
    have hjl : j ≠ l.root := fun e => hjn (by rw [e]; simp [l.root_mem])
    have hjr : j ≠ r.root := fun e => hjn (by rw [e]; simp [r.root_mem])
    have hlr2 : l.root ≠ r.root := fun e => by
     have := (List.nodup_append.1 (List.nodup_append.1 hnd2).1).2.2 l.root l.root_mem r.root r.root_mem
     exact this e
    have hother : ∀ q ∈ LF, q.1.root ≠ l.root ∧ q.1.root ≠ r.root := fun q hq => by
     have hqm := mem_preAll LF q hq
     have h3 := (List.nodup_append.1 hnd2).2.2
     exact ⟨fun e => h3 l.root (List.mem_append_left _ l.root_mem) q.1.root hqm e.symm, fun e => h3 r.root (List.mem_append_right _ r.root_mem) q.1.root hqm e.symm⟩
    refine evn k0 ?_
    rw [k6, k7]
    refine Ev.bind (below_f t0 ns ok hl (by omega)) ?_
    have ew : wrap64 ((f : Int) + ((l.outer.length : Nat) : Int)) = ((f + l.outer.length : Nat) : Int) := wrap_two hle.1 hlo
    refine evp (by show (j : Int) < _; omega) (evp (by omega) (evp (by omega) (evp (by omega) ?_)))
    refine Ev.congr (fun k => Option.bind_some _ _) ?_
    rw [hF, Int.toNat_natCast, Int.toNat_natCast, show rd (x6.set l.root (f : Int)) (j : Int) = (f : Int) from (rd_set_other x6 l.root _ j hjl).trans hF, ew]
    refine evp (by omega) (evp (by omega) ?_)
    refine eve (ih ((l, f) :: (r, f + l.outer.length) :: LF) _ _ (i + 1) ?_ ?_ ?_ ?_ ?_ ?_ ?_ ?_ ?_) ?_
    ·show (l.pre ++ (r.pre ++ preAll (LF.map Prod.fst))).length ≤ m
     rw [← List.append_assoc]
     omega
    ·show i + 1 + (l.pre ++ (r.pre ++ preAll (LF.map Prod.fst))).length = os.length
     rw [← List.append_assoc]
     omega
    ·show _ = (l.pre ++ (r.pre ++ preAll (LF.map Prod.fst))).map _
     rw [← List.append_assoc]
     exact hd2
    ·intro q hq
     rcases List.mem_cons.1 hq with rfl | hq
     ·exact hl
     ·rcases List.mem_cons.1 hq with rfl | hq
      ·exact hr2
      ·exact hI q (List.mem_cons_of_mem _ hq)
    ·show (l.pre ++ (r.pre ++ preAll (LF.map Prod.fst))).Nodup
     rw [← List.append_assoc]
     exact hnd2
    ·intro q hq
     rcases List.mem_cons.1 hq with rfl | hq
     ·exact (rd_set_other _ r.root _ l.root hlr2).trans (rd_set_same x6 l.root _ (by omega))
     ·rcases List.mem_cons.1 hq with rfl | hq
      ·exact rd_set_same _ r.root _ (by rw [List.length_set]; omega)
      ·obtain ⟨h3, h4⟩ := hother q hq
       exact ((rd_set_other _ r.root _ q.1.root h4).trans (rd_set_other x6 l.root _ q.1.root h3)).trans (hR q (List.mem_cons_of_mem _ hq))
    ·intro q hq
     rcases List.mem_cons.1 hq with rfl | hq
     ·exact hle.1
     ·rcases List.mem_cons.1 hq with rfl | hq
      ·exact hle.2
      ·exact hB q (List.mem_cons_of_mem _ hq)
    ·rw [List.length_set, List.length_set]; exact h6
    ·rw [List.length_append, List.length_singleton]; omega
    ·simp only [List.flatMap_cons, BT.marks, List.append_assoc, List.cons_append, List.nil_append]
end
theorem marks_f (y : S53) (hn : y.f1.length ≤ 1759218604441) (hcats : ∀ x ∈ y.f1, x.f4.length ≤ 9223372036854775807) (h0 : (shapeV y).1 = 0) (hf : (leavesL y.f1 (treeV y.f1)).length ≤ 4096) : ∃ k, thicketref13_Marks.f k y.f0 y.f1 = some (BT.marks (treeV y.f1) 0, 0) := by
 obtain ⟨n, hc⟩ := count_any y hn hcats
 rw [if_neg (fun e => e h0), if_neg (by omega)] at hc
 have fine := ((shapeV_spec y hn hcats).2 h0).2
 have hT := treeV_is fine
 have hnd := Is.nodup (fine_of fine) (treeV y.f1) [0] hT.is (by rw [hT.root]; exact .root)
 refine Ev.rounds (Ev.bind hc ?_)
 refine evp rfl (evp (by omega) (evp (by omega) (Ev.bind (order_f y.f0 y.f1 fine hT hn) ?_)))
 have hpa : preAll ([(treeV y.f1, 0)].map Prod.fst) = (treeV y.f1).pre := by simp [preAll]
 have h := marks_ev y.f0 y.f1 fine ((treeV y.f1).pre.map fun i : Nat => (i : Int)) (by rw [List.length_map]; have := hT.few; omega) (treeV y.f1).pre.length [(treeV y.f1, 0)] (List.replicate ((y.f1.length : Int)).toNat 0) [] 0 (by rw [hpa]; exact Nat.le_refl _) (by rw [hpa, List.length_map]; omega) (by rw [hpa]; rfl) (fun p hp => by rw [List.mem_singleton.1 hp]; exact hT.is) (by rw [hpa]; exact hnd) (fun p hp => by
  rw [List.mem_singleton.1 hp]
  show rd _ ((treeV y.f1).root : Int) = 0
  unfold rd
  rw [hT.root, List.getD_eq_getElem?_getD]
  simp [List.getElem?_replicate]
  split <;> rfl) (fun p hp => by rw [List.mem_singleton.1 hp]; rw [Nat.zero_add]; exact Nat.le_trans hT.few hn) (by simp) (Nat.zero_le _)
 refine eve h ?_
 simp
end Go.Proofs.Ytfmjgjfbnilpoaa.FAll
