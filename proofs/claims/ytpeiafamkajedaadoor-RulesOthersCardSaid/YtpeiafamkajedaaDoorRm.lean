/-
  rules.rooms: what an output's score never lies beyond.
-/
import Derived.Test.YtpeiafamkajedaaDoorLt
import Derived.Test.YtpeiafamkajedaaDoorRt
import Derived.Deep.RegionHeld3
namespace Go.Proofs.YtpeiafamkajedaaDoor.FAll
open Go.RowKit Go.Proofs.YtpeiafamkajedaaDoorW.PrintWords Go.Proofs.YtpeiafamkajedaaDoorW.PrintLast Go.Proofs.YtpeiafamkajedaaDoorW.PrintMore
attribute [local go_sem] fstore_walk
set_option linter.unusedVariables false
set_option linter.unusedSimpArgs false

/-- A number's amount, as the program reckons it. -/
def amountI (v : Int) : Int := if v < 0 then IntKind.u64.wrap (-(IntKind.u64.wrap v)) else IntKind.u64.wrap v
theorem amount_f (v : Int) : rules_amount.f v = some (amountI v) := by
  unfold rules_amount.f amountI
  split <;> rfl
/-- The greatest amount of a tree's leaves. -/
def largestG (ns : List S65) : Nat → Nat → Int → Int
  | 0, _, m => m
  | d + 1, i, m => largestG ns d (i + 1) (if (rd_T65 ns (i : Int)).f0 = 1 then mx m (amountI (rd_T65 ns (i : Int)).f1) else m)
def largestV (ns : List S65) : Int := largestG ns ns.length 0 0
theorem largest_ev (ns : List S65) (hl : ns.length ≤ 9223372036854775807) : ∀ (d i : Nat) (m : Int), i + d = ns.length → Ev (fun k => rules_Largest.l0 k m ns (ns.length : Int) (i : Int)) (largestG ns d i m) := by
  intro d
  induction d with
  | zero =>
    intro i m hi
    refine Ev.step (f := fun k => _) (fun k => rfl) ?_
    refine evn (by omega) ?_
    exact Ev.now _
  | succ d ih =>
    intro i m hi
    refine Ev.step (f := fun k => _) (fun k => rfl) ?_
    refine evp (by omega) ?_
    refine evp (by omega) ?_
    refine evp (by omega) ?_
    have e1 : wrap64 ((i : Int) + 1) = ((i + 1 : Nat) : Int) := by unfold wrap64; omega
    unfold largestG
    by_cases h1 : (rd_T65 ns (i : Int)).f0 = 1
    · refine evp h1 ?_
      rw [if_pos h1, amount_f]
      refine Ev.congr (fun k => Option.bind_some _ _) ?_
      rw [e1]
      exact ih (i + 1) _ (by omega)
    · refine evn h1 ?_
      rw [if_neg h1, e1]
      exact ih (i + 1) _ (by omega)
theorem largest_total (t0 : Int) (ns : List S65) (hl : ns.length ≤ 9223372036854775807) : ∃ k, rules_Largest.f k t0 ns = some (largestV ns) := (largest_ev ns hl ns.length 0 0 (by omega)).rounds

theorem cons_lastR {P : Program} {ops : Array Oper} {Q : Exit → Act → World → Prop} {md : Region.Mode} {S : World → Prop} {ds : List Nat} {fuel : Nat} {listed : Array Bool} {a : Act} {w : World} {i : Nat} {o : Oper} {rs : List Nat} (ho : ops[i]? = some o) (hd : i ∈ ds)
    (h : ∀ K' : Act → World → Prop, Shut (∀ a w, wpAnyLast P md ops Q S ds fuel (listed.setIfInBounds i true) a w → K' a w) → if Region.wanted o (yielded ops a.tmps) = true then Oper.wp P o a w K' Q else K' (a.put o.dst undef) w)
    (hs : AllReadyL P md ops Q S ds fuel listed a w rs) : AllReadyL P md ops Q S ds fuel listed a w (i :: rs) := fun j hj => by
  rcases List.mem_cons.1 hj with rfl | hj
  · exact wpOp_step ho (fun K' hK => h K' (fun a w hW => hK a w ⟨fun hn => absurd hd hn, hW⟩))
  · exact hs j hj
/-- A last store: nothing is shown behind it. -/
theorem lastR_ {P : Program} {ops : Array Oper} {Q : Exit → Act → World → Prop} {md : Region.Mode} {S : World → Prop} {ds : List Nat} {i : Nat} {N : Option Tmp} {oi : Oper} {fuel : Nat} {l : Array Bool} {a : Act} {w : World} (l' : Array Bool) (hi : ops[i]? = some oi) (hN : oi.dst = N) (hc : readyB md ops l l' i = true) (hd : i ∈ ds)
    (h : ∀ K : Act → World → Prop, Shut (∀ a' w', wpAnyLast P md ops Q S ds fuel l' a' w' → K a' w') → if Region.wanted oi (yielded ops a.tmps) = true then Oper.wp P oi a w K Q else K (a.put N undef) w) :
    wpAnyLast P md ops Q S ds (fuel + 1) l a w := by
  subst hN
  simp only [readyB, Bool.and_eq_true, beq_iff_eq] at hc
  obtain ⟨h1, h2⟩ := hc
  subst h2
  exact wpAnyLast_ready h1 (by simp) (cons_lastR hi hd (fun K hK => h K hK) AllReadyL.nil)
theorem skipR_ {P : Program} {ops : Array Oper} {Q : Exit → Act → World → Prop} {oi : Oper} {a : Act} {w w1 : World} {K : Act → World → Prop} (hw : Region.wanted oi (yielded ops a.tmps) = true) (hN : oi.dst = none) (hrun : (execOp a.eval oi).run P w = .ok .skip w1)
    (h : K a w1) : if Region.wanted oi (yielded ops a.tmps) = true then Oper.wp P oi a w K Q else K (a.put none undef) w := by
  rw [if_pos hw]
  unfold Oper.wp
  rw [hrun]
  show K (a.put oi.dst undef) w1
  rw [hN]
  exact h
theorem info_st : (Tryd.prog.info? 78).map (fun i => (i.zero, i.size, i.bytes)) = some (some (.slice none 0 0), 1, 24) := by kernel_rfl
/-- The room of a number alone. -/
def roomB (v : Int) : List Int := strip (words (amountI v))
/-- A tree's leaves, added. -/
def stepT (o : List (List Int)) (t : S37) : List (List Int) :=
  if 0 ≤ t.f0 ∧ t.f0 < (o.length : Int) then o.set t.f0.toNat (addL (o.getD t.f0.toNat []) (strip (words (largestV t.f1)))) else o
def roomsL (bs : List Int) (ts : List S37) : List (List Int) := ts.foldl stepT (bs.map roomB)

theorem trimmed_for {w0 wb w' : World} {v : Value} {xs : List (List Int)} {ok : Nat → Prop} {A : Option Addr} {k : Nat} {x : List Int} (HO : Kd.R trimmed 78 wb w0.heap.size ok v xs) (hb0 : w0.heap.size ≤ wb.heap.size) (h1 : k = x.length) (h2 : Kd.C (Kd.int .u32) w' A x.length x) (h3 : WhereAt wb w' A) :
    trimmed.M w' w0.heap.size (fun j => some j ≠ v.ownBlock) x [.slice A x.length k] := by
  refine ⟨A, k, rfl, h1, h2, fun ad e => ⟨fun hc => ?_, Nat.le_trans hb0 (h3 ad e).1, (h3 ad e).2⟩⟩
  have := Kd.R_lt HO ad.block hc.symm
  have := (h3 ad e).1
  omega
theorem addG_length (a b : List Int) : ∀ (d i : Nat) (c : Int) (o : List Int), (addG a b d i c o).length = o.length + d + 1 := by
  intro d
  induction d with
  | zero => intro i c o; simp [addG]
  | succ d ih => intro i c o; unfold addG; simp only []; rw [ih]; simp; omega
theorem addL_length (a b : List Int) : (addL a b).length ≤ a.length + b.length + 1 ∧ ((addL a b).length ≤ a.length + 1 ∨ (addL a b).length ≤ b.length + 1) := by
  unfold addL
  split
  · rw [strip_length]
    have h := stripN_le (addG b a b.length 0 0 []) (addG b a b.length 0 0 []).length
    have e := addG_length b a b.length 0 0 []
    simp at e
    omega
  · rw [strip_length]
    have h := stripN_le (addG a b a.length 0 0 []) (addG a b a.length 0 0 []).length
    have e := addG_length a b a.length 0 0 []
    simp at e
    omega
theorem R_setT {W : World} {base g n cap : Nat} {ok : Nat → Prop} {xs : List (List Int)} (HO : Kd.R trimmed 78 W base ok (.slice (some ⟨g, 0, none⟩) n cap) xs) (i : Int) (h0 : 0 ≤ i) (h1 : i < n) {x' : List Int} {u : Value} (hM : trimmed.M W base (fun k => ok k ∧ k ≠ g) x' [u]) :
    Kd.R trimmed 78 (W.setCell ⟨g, i.toNat, none⟩ u) base ok (.slice (some ⟨g, 0, none⟩) n cap) (xs.set i.toNat x') ∧ W.grownBy (W.setCell ⟨g, i.toNat, none⟩ u) (some g) := by
  obtain ⟨c, hcl, _, hcc, _⟩ := Kd.R_elem HO [] i h0 h1
  have hc1 : c.length = 1 := hcl
  have hd : c.drop 1 = [] := List.drop_eq_nil_of_le (by omega)
  have h := Kd.R_seg HO i h0 h1 hcl hcc (j := 0) (seg := [u]) (by show 0 + 1 ≤ 1; omega) (x' := x') (okp := fun k => ok k ∧ k ≠ g) (by show trimmed.M W base _ x' ([] ++ [u] ++ c.drop (0 + 1)); rw [Nat.zero_add, hd]; exact hM) (fun k hk => hk)
  have e : i.toNat * trimmed.sz + 0 = i.toNat := Nat.mul_one _
  rw [e] at h
  exact h
theorem apart_box {wb : World} {base ge : Nat} {ok : Nat → Prop} {v : Value} {xs : List (List Int)} {cs : Array Value} {t : TypeId} (ht : 78 ≠ t) (HO : Kd.R trimmed 78 wb base ok v xs) (Be : wb.heap[ge]? = some (.cells cs t (0, 0))) : some ge ≠ v.ownBlock := by
  intro h
  obtain ⟨_, inner, ho, _⟩ := HO
  obtain ⟨cells, hc⟩ := own_typed ho ge h.symm
  rw [Be] at hc
  injection hc with hc
  injection hc with _ h2 _
  exact ht h2.symm
section
variable (nm : ByteArray) (AF : Option Addr) (nf cF : Nat) (outs : Int) (AB : Option Addr) (cB : Nat) (bs : List Int) (AT : Option Addr) (cT : Nat) (ts : List S37)

set_option maxHeartbeats 8000000 in
set_option maxRecDepth 100000 in
theorem rules_rooms.calls (w : World) (hbs : Aside0 (Kd.C (Kd.int .i64) w AB bs.length bs)) (hts : Aside0 (Kd.C k37 w AT ts.length ts)) (hbl : Aside0 (bs.length ≤ 1000000000000)) (htl : Aside0 (ts.length ≤ 5000000000000)) :
    Calls Tryd.prog 34 #[.agg #[.string nm, .slice AF nf cF, .int .i64 outs, .slice AB bs.length cB, .slice AT ts.length cT]] w fun e w' => ∃ v, e = .returned v ∧ Kd.R trimmed 78 w' w.heap.size (fun _ => True) v (roomsL bs ts) ∧ Below w.heap.size w w' := by
  have HB := Aside0.mk (Below.refl w.heap.size w)
  go_enter Tryd.func34, Tryd.ntmps34
  go_wp2_with (first | ((with_reducible refine gate_dst (N := 1) rfl ?_); refine box_event ?hg (N := 1) ?hd (cs := #[.string nm, .slice AF nf cF, .int .i64 outs, .slice AB bs.length cB, .slice AT ts.length cT]) (t := 26) ?hr ?_; (case hd => rfl); (case hg => rfl); (case hr => first | (go_simp; done) | (go_simp; rfl)); intro ge hg w1 hbox hb; have n0_ := Aside0.mk (below_step (kB0 HB) hb); have Be := Aside0.mk hbox; clear HB; have HB := n0_; clear n0_ hb hbox hg; have he := blk5 (w := w1) Be.out))
  clear he
  go_loopg [3, 11] (bs.length + 1) (fun kq v3 v11 w' => ∃ (o : List (List Int)) (x : Int) (n : Nat), v11 = .int .i64 x ∧ Aside0 (x = n) ∧ Aside0 (o = (bs.take n).map roomB) ∧ Aside0 (o.length = n) ∧ Aside0 (n ≤ bs.length) ∧ Aside0 (bs.length - n < kq) ∧ Aside0 (w'.heap[ge]? = some (.cells #[.string nm, .slice AF nf cF, .int .i64 outs, .slice AB bs.length cB, .slice AT ts.length cT] 26 (0, 0))) ∧ Aside0 (Kd.R trimmed 78 w' w.heap.size (fun _ => True) v3 o) ∧ Aside0 (Below w.heap.size w w'))
  case atStart => exact ⟨[], 0, 0, rfl, ⟨rfl⟩, ⟨rfl⟩, ⟨rfl⟩, ⟨Nat.zero_le _⟩, ⟨by omega⟩, ⟨kb Be⟩, ⟨Kd.R_nil _ _ _ _ _⟩, ⟨kB0 HB⟩⟩
  case round =>
    clear HB Be
    obtain ⟨o, x, n, rfl, hx, ho_, hol, hn, hk, Be, HO, HB⟩ := hrel
    cases gk with
    | zero => exact absurd hk.out (by omega)
    | succ k1 =>
      obtain ⟨Ao, co, eo⟩ := Kd.R_slice HO.out
      subst eo
      have he := blk5 (w := wr) Be.out
      have hxx := hx.out
      have hnn := hn.out
      by_cases hend : n = bs.length
      · have cnd : decide (x < (bs.length : Int)) = false := decide_eq_false (by omega)
        have EO := Aside0.mk (show o = bs.map roomB by rw [ho_.out, hend, List.take_length])
        clear hxx hnn hend ho_ hol hx hn hk
        have O1 := Aside0.mk (show ∀ l ∈ o, l.length ≤ 2 by rw [EO.out]; intro l hl; obtain ⟨v, _, rfl⟩ := List.mem_map.1 hl; unfold roomB; rw [strip_length]; exact stripN_le _ _)
        go_wp2
        clear he
        go_loopg [25] (ts.length + 1) (fun kq v25 w' => ∃ (q : List (List Int)) (x : Int) (n : Nat), v25 = .int .i64 x ∧ Aside0 (x = n) ∧ Aside0 (q = (ts.take n).foldl stepT (bs.map roomB)) ∧ Aside0 (q.length = o.length) ∧ Aside0 (∀ l ∈ q, l.length ≤ 2 + n) ∧ Aside0 (n ≤ ts.length) ∧ Aside0 (ts.length - n < kq) ∧ Aside0 (Kd.R trimmed 78 w' w.heap.size (fun _ => True) (.slice Ao o.length co) q) ∧ Aside0 (Below w.heap.size w w'))
        case atStart => exact ⟨o, 0, 0, rfl, ⟨rfl⟩, EO, ⟨rfl⟩, ⟨fun l hl => Nat.le_trans (O1.out l hl) (Nat.le_refl 2)⟩, ⟨Nat.zero_le _⟩, ⟨by omega⟩, ⟨kR HO⟩, ⟨kB0 HB⟩⟩
        case round =>
          clear HB Be HO O1
          obtain ⟨q, x, n, rfl, hx, hq, hql, hqb, hn, hk, HO, HB⟩ := hrel
          cases gk with
          | zero => exact absurd hk.out (by omega)
          | succ k2 =>
            have hxx := hx.out
            have hnn := hn.out
            by_cases hend : n = ts.length
            · have cnd : decide (x < (ts.length : Int)) = false := decide_eq_false (by omega)
              have EQ := Aside0.mk (show q = roomsL bs ts by rw [hq.out, hend, List.take_length]; rfl)
              clear hxx hnn hend hq hql hqb
              go_wp2
              go_ret
              exact ⟨_, rfl, by rw [← EQ.out]; exact (kR HO), kB0 HB⟩
            · have cnd : decide (x < (ts.length : Int)) = true := decide_eq_true (by omega)
              have p1 : 0 ≤ x := by omega
              have p2 : x < (ts.length : Int) := by omega
              have hlt : n < ts.length := by omega
              obtain ⟨ad, A1, c1, rfl, e0, e1, l1, g1⟩ := at_T37 hts.out x p1 p2
              obtain ⟨y, hy⟩ : ∃ y, y = rd_T37 ts x := ⟨_, rfl⟩
              rw [← hy] at e0 e1 l1 g1
              replace e0 := (HB.out.cell (World.block_lt_of_cell? w _ e0)).trans e0
              replace e1 := (HB.out.cell (World.block_lt_of_cell? w _ e1)).trans e1
              have STEP := Aside0.mk (show stepT q y = (ts.take (n + 1)).foldl stepT (bs.map roomB) by
                rw [hq.out, List.take_add_one, List.getElem?_eq_getElem hlt, List.foldl_append, hy, hxx]
                simp [rd_T37, List.getD_eq_getElem?_getD, List.getElem?_eq_getElem hlt])
              have XN := Aside0.mk hxx
              have HLT := Aside0.mk hlt
              have QL := hql.out
              replace p1 := eq_true p1
              replace p2 := eq_true p2
              clear hxx hnn hend hlt hy hq
              by_cases b1 : 0 ≤ y.f0
              · by_cases b2 : y.f0 < (o.length : Int)
                · have d1 : decide (0 ≤ y.f0) = true := decide_eq_true b1
                  have d2 : decide (y.f0 < (o.length : Int)) = true := decide_eq_true b2
                  have hs : stepT q y = q.set y.f0.toNat (addL (q.getD y.f0.toNat []) (strip (words (largestV y.f1)))) := by unfold stepT; rw [if_pos ⟨b1, by omega⟩]
                  obtain ⟨g, cap, hv, hwg, hgl, cells, hcell⟩ := Kd.R_form HO.out (by omega)
                  injection hv with hv1 hv2 hv3
                  subst hv1
                  obtain ⟨ec, hecl, hecM, hecc, hecf⟩ := Kd.R_elem (hv2 ▸ HO.out) [] y.f0 b1 (by omega)
                  obtain ⟨Aq, kq, rfl, hqk, hqC, hqw⟩ := hecM
                  have ce : wr.cell? ⟨g, y.f0.toNat, none⟩ = some (.slice Aq (q.getD y.f0.toNat []).length kq) := by
                    have h := hecc 0 _ rfl
                    rw [show y.f0.toNat * trimmed.sz + 0 = y.f0.toNat from Nat.mul_one _] at h
                    exact h
                  have cf : wr.frozen? ⟨g, y.f0.toNat, none⟩ = false := by
                    have h := hecf 0
                    rw [show y.f0.toNat * trimmed.sz + 0 = y.f0.toNat from Nat.mul_one _] at h
                    exact h
                  have ce2 : ∀ ob, (wr.alloc ob).cell? ⟨g, y.f0.toNat, none⟩ = some (.slice Aq (q.getD y.f0.toNat []).length kq) := fun ob => ((below_alloc (Below.refl _ wr) ob).cell (p := ⟨g, y.f0.toNat, none⟩) hgl).trans ce
                  have i1 : (0 ≤ y.f0) = True := eq_true b1
                  have i2 : (y.f0 < (o.length : Int)) = True := eq_true b2
                  clear hecc hecf hcell cells hecl
                  obtain ⟨qi, hqi⟩ : ∃ qi, qi = q.getD y.f0.toNat [] := ⟨_, rfl⟩
                  rw [← hqi] at ce hqk hqC hs; simp only [← hqi] at ce2
                  have G1 := Aside0.mk g1
                  have L1 := Aside0.mk l1
                  have HS := Aside0.mk hs
                  have QW := Aside0.mk hqw
                  have QC := Aside0.mk hqC
                  have QK := Aside0.mk hqk
                  have HG := Aside0.mk hgl
                  obtain ⟨kL, hkL⟩ := largest_total y.f0 y.f1 (show ReadsRow _ _ _ _ _ _ from g1).2.1
                  have KL := Aside0.mk hkL
                  have LQ := Aside0.mk (show qi.length ≤ 2 + n by
                    have hlt2 : y.f0.toNat < q.length := by omega
                    rw [hqi, List.getD_eq_getElem?_getD, List.getElem?_eq_getElem hlt2]
                    exact hqb.out _ (List.getElem_mem hlt2))
                  have LA := Aside0.mk (show qi.length ≤ 10000000000000 by have := LQ.out; have := hn.out; have := htl.out; omega)
                  have IX := Aside0.mk (show 0 ≤ y.f0 ∧ y.f0 < (o.length : Int) from ⟨b1, b2⟩)
                  clear g1 l1 hs hqw hqC hqk hgl hkL b1 b2 hwg hv2 hv3 hqi QL
                  have cf2 : ∀ ob, (wr.alloc ob).frozen? ⟨g, y.f0.toNat, none⟩ = false := fun ob => ((below_alloc (Below.refl _ wr) ob).frozen (p := ⟨g, y.f0.toNat, none⟩) HG.out).trans cf
                  have LB := Aside0.mk (show (strip (words (largestV y.f1))).length ≤ 10000000000000 by rw [strip_length]; exact Nat.le_trans (stripN_le _ _) (show 2 ≤ _ by omega))
                  have BR := Aside0.mk (Below.refl wr.heap.size wr)
                  go_wp2
                  refine start_ (n := 14) (S := fun w' => w'.cell? ⟨wr.heap.size, 0, none⟩ = some (.int .i64 y.f0) ∧ w'.cell? ⟨wr.heap.size, 1, none⟩ = some (.slice A1 y.f1.length c1) ∧ w'.cell? ⟨g, y.f0.toNat, none⟩ = some (.slice Aq qi.length kq)) (ds := [13]) #[false, false, false, false, false, false, false, false, false, false, false, false, false, false] (by kernel_rfl) rfl rfl ⟨((blk_cell (blk_drew (blk_new wr _)) 0).trans rfl), ((blk_cell (blk_drew (blk_new wr _)) 1).trans rfl), (ce2 _)⟩ (fun hHeld => ?_)
                  refine pure_ (i := 0) (N := some 39) (v := ?_) (a' := ?_) #[true, false, false, false, false, false, false, false, false, false, false, false, false, false] rfl rfl (by kernel_rfl) (fun _ _ _ h => h) (Or.inl ⟨by rfl, ?_⟩) ?_ ?_
                  rotate_left
                  · intro w'
                    go_simp
                    with_reducible rfl
                  rotate_left
                  · simp only [Act.put, List.setIfInBounds_toArray, List.set_cons_zero, List.set_cons_succ, i64_w, i32_w]
                    rfl
                  refine pure_ (i := 1) (N := some 40) (v := ?_) (a' := ?_) #[true, true, false, false, false, false, false, false, false, false, false, false, false, false] rfl rfl (by kernel_rfl) (fun _ _ _ h => h) (Or.inl ⟨by rfl, ?_⟩) ?_ ?_
                  rotate_left
                  · intro w'
                    go_simp
                    with_reducible rfl
                  rotate_left
                  · simp only [Act.put, List.setIfInBounds_toArray, List.set_cons_zero, List.set_cons_succ, i64_w, i32_w]
                    rfl
                  refine pure_ (i := 3) (N := some 42) (v := ?_) (a' := ?_) #[true, true, false, true, false, false, false, false, false, false, false, false, false, false] rfl rfl (by kernel_rfl) (fun _ _ _ h => h) (Or.inl ⟨by rfl, ?_⟩) ?_ ?_
                  rotate_left
                  · intro w'
                    go_simp
                    with_reducible rfl
                  rotate_left
                  · simp only [Act.put, List.setIfInBounds_toArray, List.set_cons_zero, List.set_cons_succ, i64_w, i32_w]
                    rfl
                  refine pure_ (i := 4) (N := some 43) (v := ?_) (a' := ?_) #[true, true, false, true, true, false, false, false, false, false, false, false, false, false] rfl rfl (by kernel_rfl) (fun _ _ _ h => h) (Or.inl ⟨by rfl, ?_⟩) ?_ ?_
                  rotate_left
                  · intro w'
                    go_simp
                    with_reducible rfl
                  rotate_left
                  · simp only [Act.put, List.setIfInBounds_toArray, List.set_cons_zero, List.set_cons_succ, i64_w, i32_w]
                    rfl
                  refine take_ (i := 2) (N := some 41) (v := ?_) (a' := ?_) #[true, true, true, true, true, false, false, false, false, false, false, false, false, false] rfl rfl (by kernel_rfl) (fun _ _ _ h => h) (Or.inl ⟨by rfl, ?_⟩) hHeld ?_ ?_
                  rotate_left
                  · rintro w' ⟨s0, s1, s2⟩
                    go_simp
                    with_reducible rfl
                  rotate_left
                  · simp only [Act.put, List.setIfInBounds_toArray, List.set_cons_zero, List.set_cons_succ, i64_w, i32_w]
                    rfl
                  refine take_ (i := 5) (N := some 44) (v := ?_) (a' := ?_) #[true, true, true, true, true, true, false, false, false, false, false, false, false, false] rfl rfl (by kernel_rfl) (fun _ _ _ h => h) (Or.inl ⟨by rfl, ?_⟩) hHeld ?_ ?_
                  rotate_left
                  · rintro w' ⟨s0, s1, s2⟩
                    go_simp
                    with_reducible rfl
                  rotate_left
                  · simp only [Act.put, List.setIfInBounds_toArray, List.set_cons_zero, List.set_cons_succ, i64_w, i32_w]
                    rfl
                  refine pure_ (i := 6) (N := some 45) (v := ?_) (a' := ?_) #[true, true, true, true, true, true, true, false, false, false, false, false, false, false] rfl rfl (by kernel_rfl) (fun _ _ _ h => h) (Or.inl ⟨by rfl, ?_⟩) ?_ ?_
                  rotate_left
                  · intro w'
                    go_simp
                    with_reducible rfl
                  rotate_left
                  · simp only [Act.put, List.setIfInBounds_toArray, List.set_cons_zero, List.set_cons_succ, i64_w, i32_w]
                    rfl
                  refine take_ (i := 7) (N := some 46) (v := ?_) (a' := ?_) #[true, true, true, true, true, true, true, true, false, false, false, false, false, false] rfl rfl (by kernel_rfl) (fun _ _ _ h => h) (Or.inl ⟨by rfl, ?_⟩) hHeld ?_ ?_
                  rotate_left
                  · rintro w' ⟨s0, s1, s2⟩
                    go_simp
                    with_reducible rfl
                  rotate_left
                  · simp only [Act.put, List.setIfInBounds_toArray, List.set_cons_zero, List.set_cons_succ, i64_w, i32_w]
                    rfl
                  refine take_ (i := 8) (N := some 47) (v := ?_) (a' := ?_) #[true, true, true, true, true, true, true, true, true, false, false, false, false, false] rfl rfl (by kernel_rfl) (fun _ _ _ h => h) (Or.inl ⟨by rfl, ?_⟩) hHeld ?_ ?_
                  rotate_left
                  · rintro w' ⟨s0, s1, s2⟩
                    go_simp
                    with_reducible rfl
                  rotate_left
                  · simp only [Act.put, List.setIfInBounds_toArray, List.set_cons_zero, List.set_cons_succ, i64_w, i32_w]
                    rfl
                  refine one_ (i := 9) (N := some 48) #[true, true, true, true, true, true, true, true, true, true, false, false, false, false] rfl rfl (by kernel_rfl) (by decide) (fun K hK => ?_)
                  refine goes_ Tryd.func14 (by kernel_rfl) rfl #[.agg #[.int .i64 y.f0, .slice A1 y.f1.length c1]] (by rfl) rfl rfl (by (try simp only [List.map_toArray, List.map_cons, List.map_nil]); first | done | rfl) ?_
                  refine (rules_Largest.calls kL y.f0 A1 c1 y.f1 (largestV y.f1) _ ?side1 L1.out KL.out).mono ?_
                  (case side1 => exact (Kd.C_below G1.out (kB0 HB)))
                  rintro e w5 ⟨rfl, hb⟩
                  refine ⟨_, rfl, ?_⟩
                  have q0 := (hb.cell (p := ⟨wr.heap.size, 0, none⟩) (by simp)).trans hHeld.1
                  have q1 := (hb.cell (p := ⟨wr.heap.size, 1, none⟩) (by simp)).trans hHeld.2.1
                  have q2 := (hb.cell (p := ⟨g, y.f0.toNat, none⟩) (Nat.lt_of_lt_of_le HG.out (below_size (kB0 BR)))).trans hHeld.2.2
                  have q3 := (hb.frozen (p := ⟨g, y.f0.toNat, none⟩) (Nat.lt_of_lt_of_le HG.out (below_size (kB0 BR)))).trans (cf2 _)
                  have q4 := Aside0.mk (Nat.lt_of_lt_of_le (show wr.heap.size < _ by simp) hb.size)
                  have n1_ := Aside0.mk (below_step (kB0 HB) hb)
                  have n2_ := Aside0.mk (below_step (kB0 BR) hb)
                  have n3_ := Aside0.mk (Kd.R_below (kR HO) hb)
                  clear HB BR HO hHeld
                  have HB := n1_
                  have BR := n2_
                  have HO := n3_
                  have S4 := q4
                  have S3 := Aside0.mk q3
                  clear n1_ n2_ n3_ q3 q4 hb
                  refine hK.out _ _ ⟨q0, q1, q2⟩ (fun hHeld => ?_)
                  clear hK K
                  refine norm_ (a' := ?_) ?_ ?_
                  rotate_left
                  · show Act.put _ (some 48) _ = _
                    simp only [Act.put, List.setIfInBounds_toArray, List.set_cons_zero, List.set_cons_succ, i64_w, i32_w]
                    rfl
                  refine one_ (i := 10) (N := some 49) #[true, true, true, true, true, true, true, true, true, true, true, false, false, false] rfl rfl (by kernel_rfl) (by decide) (fun K hK => ?_)
                  refine goes_ Tryd.func33 (by kernel_rfl) rfl #[.int .u64 (largestV y.f1)] (by rfl) rfl rfl (by (try simp only [List.map_toArray, List.map_cons, List.map_nil]); first | done | rfl) ?_
                  refine (limbs_From.calls (largestV y.f1) _).mono ?_
                  rintro e w6 ⟨A2, k2_, rfl, hc, hkq, hwh, hb⟩
                  refine ⟨_, rfl, ?_⟩
                  have FC := Aside0.mk hc
                  clear hc hkq hwh
                  have q0 := (hb.cell (p := ⟨wr.heap.size, 0, none⟩) S4.out).trans hHeld.1
                  have q1 := (hb.cell (p := ⟨wr.heap.size, 1, none⟩) S4.out).trans hHeld.2.1
                  have q2 := (hb.cell (p := ⟨g, y.f0.toNat, none⟩) (Nat.lt_of_lt_of_le HG.out (below_size (kB0 BR)))).trans hHeld.2.2
                  have q3 := (hb.frozen (p := ⟨g, y.f0.toNat, none⟩) (Nat.lt_of_lt_of_le HG.out (below_size (kB0 BR)))).trans S3.out
                  have q4 := Aside0.mk (Nat.lt_of_lt_of_le (S4.out) hb.size)
                  have n1_ := Aside0.mk (below_step (kB0 HB) hb)
                  have n2_ := Aside0.mk (below_step (kB0 BR) hb)
                  have n3_ := Aside0.mk (Kd.R_below (kR HO) hb)
                  clear HB BR HO hHeld S4 S3
                  have HB := n1_
                  have BR := n2_
                  have HO := n3_
                  have S4 := q4
                  have S3 := Aside0.mk q3
                  clear n1_ n2_ n3_ q3 q4 hb
                  refine hK.out _ _ ⟨q0, q1, q2⟩ (fun hHeld => ?_)
                  clear hK K
                  refine norm_ (a' := ?_) ?_ ?_
                  rotate_left
                  · show Act.put _ (some 49) _ = _
                    simp only [Act.put, List.setIfInBounds_toArray, List.set_cons_zero, List.set_cons_succ, i64_w, i32_w]
                    rfl
                  refine one_ (i := 11) (N := some 50) #[true, true, true, true, true, true, true, true, true, true, true, true, false, false] rfl rfl (by kernel_rfl) (by decide) (fun K hK => ?_)
                  refine goes_ Tryd.func52 (by kernel_rfl) rfl #[.slice Aq qi.length kq, .slice A2 (strip (words (largestV y.f1))).length k2_] (by rfl) rfl rfl (by (try simp only [List.map_toArray, List.map_cons, List.map_nil]); first | done | rfl) ?_
                  refine (limbs_Add.calls Aq kq qi A2 k2_ (strip (words (largestV y.f1))) _ ⟨Kd.C_below QC.out (kB0 BR)⟩ FC LA.out LB.out).mono ?_
                  rintro e w7 ⟨Ar, kr, rfl, hc, hkr, hwh, hb⟩
                  refine ⟨_, rfl, ?_⟩
                  have AM := Aside0.mk (show trimmed.M w7 w.heap.size (fun j => True ∧ j ≠ g) (addL qi (strip (words (largestV y.f1)))) [.slice Ar (addL qi (strip (words (largestV y.f1)))).length kr] from ⟨Ar, kr, rfl, hkr, hc, fun ad_ e_ => ⟨⟨trivial, fun h_ => by have h1_ := (hwh ad_ e_).1; have h2_ := Nat.lt_of_lt_of_le HG.out (below_size BR.out); omega⟩, Nat.le_trans (below_size HB.out) (hwh ad_ e_).1, (hwh ad_ e_).2⟩⟩)
                  clear hc hkr hwh
                  have q0 := (hb.cell (p := ⟨wr.heap.size, 0, none⟩) S4.out).trans hHeld.1
                  have q1 := (hb.cell (p := ⟨wr.heap.size, 1, none⟩) S4.out).trans hHeld.2.1
                  have q2 := (hb.cell (p := ⟨g, y.f0.toNat, none⟩) (Nat.lt_of_lt_of_le HG.out (below_size (kB0 BR)))).trans hHeld.2.2
                  have q3 := (hb.frozen (p := ⟨g, y.f0.toNat, none⟩) (Nat.lt_of_lt_of_le HG.out (below_size (kB0 BR)))).trans S3.out
                  have q4 := Aside0.mk (Nat.lt_of_lt_of_le (S4.out) hb.size)
                  have n1_ := Aside0.mk (below_step (kB0 HB) hb)
                  have n2_ := Aside0.mk (below_step (kB0 BR) hb)
                  have n3_ := Aside0.mk (Kd.R_below (kR HO) hb)
                  clear HB BR HO hHeld S4 S3
                  have HB := n1_
                  have BR := n2_
                  have HO := n3_
                  have S4 := q4
                  have S3 := Aside0.mk q3
                  clear n1_ n2_ n3_ q3 q4 hb
                  have fz := S3.out
                  refine hK.out _ _ ⟨q0, q1, q2⟩ (fun hHeld => ?_)
                  clear hK K
                  refine norm_ (a' := ?_) ?_ ?_
                  rotate_left
                  · show Act.put _ (some 50) _ = _
                    simp only [Act.put, List.setIfInBounds_toArray, List.set_cons_zero, List.set_cons_succ, i64_w, i32_w]
                    rfl
                  refine pure_ (i := 12) (N := some 51) (v := ?_) (a' := ?_) #[true, true, true, true, true, true, true, true, true, true, true, true, true, false] rfl rfl (by kernel_rfl) (fun _ _ _ h => h) (Or.inl ⟨by rfl, ?_⟩) ?_ ?_
                  rotate_left
                  · intro w'
                    go_simp
                    with_reducible rfl
                  rotate_left
                  · simp only [Act.put, List.setIfInBounds_toArray, List.set_cons_zero, List.set_cons_succ, i64_w, i32_w]
                    rfl
                  refine lastR_ (i := 13) (N := none) #[true, true, true, true, true, true, true, true, true, true, true, true, true, true] rfl rfl (by kernel_rfl) (by decide) (fun K hK => ?_)
                  refine skipR_ (w1 := ?_) (by rfl) rfl ?_ ?_
                  rotate_left
                  · go_simp
                    rfl
                  refine hK.out _ _ ?_
                  clear hK K
                  refine done_ (by kernel_rfl) ?_

                  all_goals (
                    have RS := Aside0.mk (R_setT HO.out y.f0 IX.out.1 IX.out.2 AM.out)
                    have HB2 := Aside0.mk (below_set (g := g) (j := y.f0.toNat) (v := .slice Ar (addL qi (strip (words (largestV y.f1)))).length kr) HB.out (Kd.R_base HO.out g rfl))
                    have ST3 := Aside0.mk (by have h := STEP.out; rw [HS.out] at h; exact h)
                    go_wp2
                    go_roundg k2
                    (case measure => have := hk.out; omega)
                    (case rel => exact ⟨_, _, n + 1, rfl, ⟨by have := XN.out; have := HLT.out; have := htl.out; unfold wrap64; omega⟩, ST3, ⟨by rw [List.length_set]; exact hql.out⟩, ⟨by
                      intro l hl
                      rcases List.mem_or_eq_of_mem_set hl with h | h
                      · have := hqb.out l h; omega
                      · rw [h]; have := addL_length qi (strip (words (largestV y.f1))); have := LQ.out; have : (strip (words (largestV y.f1))).length ≤ 2 := by rw [strip_length]; exact stripN_le _ _
                        omega⟩, ⟨HLT.out⟩, ⟨by have := hk.out; have := HLT.out; omega⟩, ⟨by first | exact RS.out.1 | (with_reducible repeat (first | apply Kd.R_drewN | apply Kd.R_drew)); exact RS.out.1⟩, ⟨by first | exact HB2.out | repeat (first | exact HB2.out | apply pw_below_drewN | apply below_drew1)⟩⟩))
                · have d1 : decide (0 ≤ y.f0) = true := decide_eq_true b1
                  have d2 : decide (y.f0 < (o.length : Int)) = false := decide_eq_false b2
                  have hs : stepT q y = q := by unfold stepT; rw [if_neg (by omega)]
                  have ST2 := Aside0.mk (hs ▸ STEP.out)
                  clear hs QL b1 b2 STEP
                  go_wp2
                  go_roundg k2
                  case measure => have := hk.out; omega
                  case rel => exact ⟨_, _, n + 1, rfl, ⟨by have := XN.out; have := HLT.out; have := htl.out; unfold wrap64; omega⟩, ST2, hql, ⟨fun l hl => by have := hqb.out l hl; omega⟩, ⟨HLT.out⟩, ⟨by have := hk.out; have := HLT.out; omega⟩, ⟨kR HO⟩, ⟨kB0 HB⟩⟩
              · have d1 : decide (0 ≤ y.f0) = false := decide_eq_false b1
                have hs : stepT q y = q := by unfold stepT; rw [if_neg (by omega)]
                have ST2 := Aside0.mk (hs ▸ STEP.out)
                clear hs QL b1 STEP
                go_wp2
                go_roundg k2
                case measure => have := hk.out; omega
                case rel => exact ⟨_, _, n + 1, rfl, ⟨by have := XN.out; have := HLT.out; have := htl.out; unfold wrap64; omega⟩, ST2, hql, ⟨fun l hl => by have := hqb.out l hl; omega⟩, ⟨HLT.out⟩, ⟨by have := hk.out; have := HLT.out; omega⟩, ⟨kR HO⟩, ⟨kB0 HB⟩⟩
      · have cnd : decide (x < (bs.length : Int)) = true := decide_eq_true (by omega)
        have p1 : 0 ≤ x := by omega
        have p2 : x < (bs.length : Int) := by omega
        have hlt : n < bs.length := by omega
        obtain ⟨ad, rfl, e1⟩ := Kd.at_int hbs.out x p1 p2
        replace e1 := (HB.out.cell (World.block_lt_of_cell? w _ e1)).trans e1
        obtain ⟨bv, hbv⟩ : ∃ bv, bv = rd bs x := ⟨_, rfl⟩
        rw [← hbv] at e1
        have EO := Aside0.mk (show o ++ [roomB bv] = (bs.take (n + 1)).map roomB by
          rw [ho_.out, List.take_add_one, List.getElem?_eq_getElem hlt, List.map_append, hbv, hxx]
          simp [rd, List.getD_eq_getElem?_getD, List.getElem?_eq_getElem hlt])
        have XN := Aside0.mk hxx
        have HLT := Aside0.mk hlt
        replace p1 := eq_true p1
        replace p2 := eq_true p2
        clear hxx hnn hend hlt ho_ hbv
        go_wp2_with (first | (go_at_call 36; refine (rules_amount.calls bv _ _ (amount_f bv)).mono ?_; rintro e w' ⟨rfl, ⟨⟨nd, rfl⟩⟩⟩) | (go_at_call 33; refine (limbs_From.calls (amountI bv) _).mono ?_; rintro e w5 ⟨Aq, kq, rfl, hc, hkq, hwh, hb⟩; have TM := Aside0.mk (trimmed_for (kR HO) (below_size (kB0 HB)) hkq hc hwh); have n1_ := Aside0.mk (below_step (kB0 HB) hb); have m1_ := Aside0.mk (blk_below (kb Be) hb); have m2_ := Aside0.mk (Kd.R_below (kR HO) hb); clear HB Be HO he; have HB := n1_; have Be := m1_; have HO := m2_; clear n1_ m1_ m2_ hb hc hkq hwh) | ((with_reducible refine gate_builtin (b := .append) (xs := #[.tmp 15, .tmp 19]) rfl ?_); at_builtin; refine Kd.R_append trimmed (w0 := w) w.heap.size rfl (.tmp 15) (.tmp 19) 80 78 (.slice none 0 0) 24 rfl Tryd.underlying80 info_st rfl (by decide) (by omega) (.slice Ao o.length co) o (roomB bv) [.slice Aq (roomB bv).length kq] (fun _ => True) (fun j => some j ≠ (Value.slice Ao o.length co).ownBlock) rfl rfl ?aP (fun _ hk => ⟨trivial, hk⟩) ?aF ?aO ?aB ?aS ?aL ?_; (case aP => exact TM.out); (case aB => exact (kB0 HB)); (case aF => exact (fun _ _ => trivial)); (case aO => exact (kR HO)); (case aS => exact (below_size (kB0 HB))); (case aL => have := hol.out; have := hn.out; have := hbl.out; omega); intro v214 w12 ho hb_ hg hat; have n0_ := Aside0.mk hb_; have n1_ := Aside0.mk ho; have n2_ := Aside0.mk (blk_grown (kb Be) hg (apart_box (by decide) HO.out Be.out)); clear HB HO Be; have HB := n0_; have HO := n1_; have Be := n2_; clear n0_ n1_ n2_; clear ho hb_ hg hat))
        go_roundg k1
        case measure => have := hk.out; omega
        case rel => exact ⟨_, _, n + 1, rfl, ⟨by have := XN.out; have := HLT.out; have := hbl.out; unfold wrap64; omega⟩, EO, ⟨by have := hol.out; simp; omega⟩, ⟨HLT.out⟩, ⟨by have := hk.out; have := HLT.out; omega⟩, ⟨kb Be⟩, ⟨kR HO⟩, ⟨kB0 HB⟩⟩
end
end Go.Proofs.YtpeiafamkajedaaDoor.FAll
