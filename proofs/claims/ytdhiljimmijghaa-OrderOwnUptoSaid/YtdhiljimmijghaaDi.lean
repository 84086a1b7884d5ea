/-
  order.Distinct: the numbers of a list, once each and rising.
-/
import Derived.Test.YtdhiljimmijghaaSs
import Derived.Test.YtdhiljimmijghaaOk
import Derived.Test.YtdhiljimmijghaaFw
import Derived.Test.YtdhiljimmijghaaWd
import Derived.Maps.RangeWalk
import Derived.Maps.Views
namespace Go.Proofs.Ytdhiljimmijghaa.FAll
open Go.RowKit Go.Sort Go.Maps Go.Proofs.YtdhiljimmijghaaW.PrintWords Go.Proofs.YtdhiljimmijghaaW.PrintLast Go.Proofs.YtdhiljimmijghaaW.PrintMore
set_option linter.unusedVariables false
set_option linter.unusedSimpArgs false
set_option linter.unusedSectionVars false
/-- The map's keys are the keys of the numbers that are. -/
def HasOf (D : DataW Unit) (l : List Nat) : Prop := ∀ x : Int, has D (.int .u64 x) = true ↔ ∃ b ∈ l, isNaN b = false ∧ fkey b = x
theorem hasOf_nil : HasOf (.map []) [] := fun x => by simp [has]
theorem hasOf_skip {D : DataW Unit} {l : List Nat} {k : Nat} (h : HasOf D (l.take k)) (hk : k < l.length) (hn : isNaN l[k] = true) : HasOf D (l.take (k + 1)) := by
  intro x
  rw [h x, List.take_succ_eq_append_getElem hk]
  constructor
  · rintro ⟨b, hb, h1⟩
    exact ⟨b, List.mem_append_left _ hb, h1⟩
  · rintro ⟨b, hb, h1⟩
    rcases List.mem_append.1 hb with hb | hb
    · exact ⟨b, hb, h1⟩
    · rw [List.mem_singleton.1 hb] at h1
      rw [hn] at h1
      cases h1.1
theorem hasOf_put {D : DataW Unit} (hD : IsMap D) (d : DataW Unit) {l : List Nat} {k : Nat} (h : HasOf D (l.take k)) (hk : k < l.length) (hn : isNaN l[k] = false) : HasOf (D.put (.int .u64 (fkey l[k])) d) (l.take (k + 1)) := by
  intro x
  rw [List.take_succ_eq_append_getElem hk]
  by_cases hx : x = fkey l[k]
  · subst hx
    rw [has_put_same hD (show WideAt.IsKeyLit (.int .u64 (fkey l[k])) from trivial)]
    exact ⟨fun _ => ⟨l[k], List.mem_append_right _ (List.mem_singleton.2 rfl), hn, rfl⟩, fun _ => rfl⟩
  · rw [has_put_other (fun e => hx (by injection e)), h x]
    constructor
    · rintro ⟨b, hb, h1⟩
      exact ⟨b, List.mem_append_left _ hb, h1⟩
    · rintro ⟨b, hb, h1⟩
      rcases List.mem_append.1 hb with hb | hb
      · exact ⟨b, hb, h1⟩
      · rw [List.mem_singleton.1 hb] at h1
        exact absurd h1.2.symm hx
/-- What the range over the map has given. -/
structure Got (D : DataW Unit) (left : Lit → Bool) (ks : List Int) : Prop where
  nodup : ks.Nodup
  mem : ∀ x, x ∈ ks ↔ has D (.int .u64 x) = true ∧ left (.int .u64 x) = false
theorem got_start (D : DataW Unit) : Got D (has D) [] := ⟨List.nodup_nil, fun x => by simp⟩
theorem got_step {D : DataW Unit} {left : Lit → Bool} {ks : List Int} {x : Int} (h : Got D left ks) (hl : left (.int .u64 x) = true) (hD : has D (.int .u64 x) = true) : Got D (fun z => left z && !z.sameKey (.int .u64 x)) (ks ++ [x]) := by
  constructor
  · rw [List.nodup_append]
    refine ⟨h.nodup, by simp, ?_⟩
    intro a ha b hb e
    rw [List.mem_singleton.1 hb] at e
    subst e
    have := ((h.mem a).1 ha).2
    rw [hl] at this
    cases this
  · intro y
    rw [List.mem_append, h.mem y, List.mem_singleton]
    by_cases e : y = x
    · subst e
      simp [hD, Lit.sameKey]
    · have : (Lit.int .u64 y).sameKey (.int .u64 x) = false := by simp [Lit.sameKey, e]
      simp [this, e]
theorem got_end {D : DataW Unit} {left : Lit → Bool} {ks : List Int} {l : List Nat} (h : Got D left ks) (hl : ∀ kl, left kl = false) (hD : HasOf D l) : ks.Nodup ∧ ∀ x, x ∈ ks ↔ ∃ b ∈ l, isNaN b = false ∧ fkey b = x :=
  ⟨h.nodup, fun x => by rw [h.mem x, hl, hD x]; simp⟩
theorem has_of_at {D : DataW Unit} {k : Lit} {y : DataW Unit} (h : ∀ zd, D.atKey k zd = y) : has D k = true := has_true_of_atKey h
/-- The keys of a list's numbers, once each and rising. -/
structure DistinctOf (l : List Nat) (ks : List Int) : Prop where
  rises : ks.Pairwise (· < ·)
  mem : ∀ x, x ∈ ks ↔ ∃ b ∈ l, isNaN b = false ∧ fkey b = x
  len : ks.length ≤ l.length
theorem distinct_of {l : List Nat} {ks ys : List Int} (h1 : ks.Nodup) (h2 : ∀ x, x ∈ ks ↔ ∃ b ∈ l, isNaN b = false ∧ fkey b = x) (h3 : ks.length ≤ l.length) (hp : ys.Perm ks) (hr : ys.Pairwise (· ≤ ·)) : DistinctOf l ys := by
  refine ⟨?_, fun x => by rw [hp.mem_iff, h2 x], by rw [hp.length_eq]; exact h3⟩
  have hn : ys.Nodup := hp.symm.nodup h1
  have := hr.and hn
  exact this.imp (fun h => by have h1 := h.1; have h2 := h.2; omega)
theorem law64 : Keyed Try.prog 23 := int_keyed Try.underlying23
theorem zeroI (w : World) : (zeroValue 3).run Try.prog w = .ok (.int .i64 0) w := by kernel_rfl
theorem info64 : (Try.prog.info? 23).map (fun i => (i.zero, i.size, i.bytes)) = some (some (.int .u64 0), 1, 8) := by kernel_rfl
theorem infoF64 : (Try.prog.info? 26).map (fun i => (i.zero, i.size, i.bytes)) = some (some (.float .f64 0), 1, 8) := by kernel_rfl
theorem size_le_of {w : World} {k : TypeId} {R : Value → Option (DataW Unit × List MemPlace)} {b n : Nat} {D : DataW Unit} (h : w.ownsMap Try.prog k R b n D) : Maps.size D ≤ n := by
  obtain ⟨es, clock, _, _, hs, rfl⟩ := h
  simp [Maps.size, length_sorted]
  exact hs
set_option maxHeartbeats 16000000 in
set_option maxRecDepth 100000 in
theorem Distinct.calls (w : World) (A : Option Addr) (c : Nat) (l : List Nat) (hl : Aside0 (Kd.C Kd.f64 w A l.length l)) (hwf : Aside0 (∀ b ∈ l, b < 2 ^ 64)) (hsz : Aside0 (l.length * 8 ≤ 140737488351232)) :
    Calls Try.prog 11 #[.slice A l.length c] w fun e w' => ∃ (v0 : Value) (ks : List Int), e = .returned v0 ∧ DistinctOf l ks ∧ Kd.R Kd.f64 26 w' w.heap.size (fun _ => True) v0 (ks.map atBits) ∧ Below w.heap.size w w' := by
  have HB := Aside0.mk (Below.refl w.heap.size w)
  have hmm := @run_makeMap Try.prog
  go_enter Try.func11, Try.ntmps11
  go_wp2_with (fail)
  go_loopg [16] (l.length + 1) (fun kq v16 w' => ∃ (x : Int) (n : Nat) (D : DataW Unit), v16 = .int .i64 x ∧ Aside0 (x = n) ∧ Aside0 (n ≤ l.length) ∧ Aside0 (l.length - n < kq) ∧ Aside0 (w'.ownsMap Try.prog 23 (plainElem Try.prog 3) w.heap.size n D) ∧ Aside0 (HasOf D (l.take n)) ∧ Aside0 (Below w.heap.size w w'))
  case atStart => exact ⟨0, 0, .map [], rfl, ⟨rfl⟩, ⟨Nat.zero_le _⟩, ⟨by omega⟩, ⟨World.ownsMap_made w _ _ _⟩, ⟨hasOf_nil⟩, ⟨kB0 HB⟩⟩
  case round =>
    clear HB hmm
    obtain ⟨x, n, D, rfl, hx, hn, hk, hown, hat, HB⟩ := hrel
    cases gk with
    | zero => exact absurd hk.out (by omega)
    | succ k1 =>
      by_cases hend : l.length ≤ n
      · have cnd : decide (x < (l.length : Int)) = false := decide_eq_false (by have := hx.out; omega)
        have NE := Aside0.mk (show n = l.length from Nat.le_antisymm hn.out hend)
        have HD := Aside0.mk (show HasOf D l by have h := hat.out; rwa [List.take_of_length_le hend] at h)
        have WL := Aside0.mk (show w.heap.size < wr.heap.size from hown.out.lt)
        clear hend
        go_wp2_with (first | (at_range; refine wpList_range_own _ rfl _ 44 rfl 23 3 law64 Try.underlying44 _ w.heap.size n _ rfl hown.out ?_; intro w0 hrg0 hg0 hs0))
        go_frame
        obtain ⟨rb, hrb⟩ : ∃ rb, wr.heap.size = rb := ⟨_, rfl⟩
        rw [hrb] at hrg0 WL ⊢
        have B0 := Aside0.mk ((kB0 HB : Below w.heap.size w wr).grown hg0 (below_size (kB0 HB)) (fun j hj => by cases hj))
        have RG0 := Aside0.mk hrg0
        have SD := Aside0.mk (size_le_of hown.out)
        clear hrg0 hg0 hs0 HB hown hat
        go_loopg [6] (Maps.size D + 1) (fun kq v6 w' => ∃ (left : Lit → Bool) (cnt : Nat) (ks : List Int), Aside0 (w'.ranges Try.prog 23 (plainElem Try.prog 3) w.heap.size rb n D left cnt) ∧ Aside0 (cnt < kq) ∧ Aside0 (ks.length + cnt ≤ l.length) ∧ Aside0 (Got D left ks) ∧ Aside0 (Kd.R (Kd.int .u64) 23 w' w.heap.size (fun k => rb < k) v6 ks) ∧ Aside0 (Below w.heap.size w w'))
        case atStart => exact ⟨_, _, [], RG0, ⟨Nat.lt_succ_self _⟩, ⟨by have := SD.out; have := NE.out; simp; omega⟩, ⟨got_start D⟩, ⟨Kd.R_nil _ _ _ _ _⟩, B0⟩
        case round =>
          clear RG0 B0 SD
          obtain ⟨left, cnt, ks, hrg, hk2, hlen, hgot, HR, HB⟩ := hrel
          obtain ⟨A6, c6, rfl⟩ := Kd.R_slice HR.out
          cases gk with
          | zero => exact absurd hk2.out (by omega)
          | succ k2 =>
            go_wp2_with (first | (at_next; refine wpList_next_ranges_ii _ rfl _ rfl 23 3 .u64 .i64 law64 Try.underlying23 Try.underlying3 w.heap.size rb n _ _ _ rfl hrg.out ?_ ?_))
            · intro hc0 hl0
              obtain ⟨g1, g2⟩ := got_end hgot.out hl0 HD.out
              have G1 := Aside0.mk g1
              have G2 := Aside0.mk g2
              clear g1 g2 hc0 hl0
              go_wp2_with (first | (go_at_call 25; refine (SortR.calls _ w.heap.size _ _ ks HR ⟨by have := hlen.out; have := hsz.out; omega⟩).mono ?_; rintro e w5 ⟨ys, rfl, hp, hr, hR5, hg5⟩; have HP := Aside0.mk hp; have HS := Aside0.mk hr; have n0_ := Aside0.mk (Below.grown HB.out hg5 (below_size HB.out) (fun k hk => Kd.R_base HR.out k hk)); clear HB HR hrg; have HB := n0_; have HR := Aside0.mk hR5; clear n0_ hp hr hg5 hR5))
              have LE := Aside0.mk (Kd.R_reads' HR.out).1
              have DO := Aside0.mk (distinct_of G1.out G2.out (by have := hlen.out; omega) HP.out HS.out)
              have KB := Aside0.mk (show ∀ y ∈ ys, 0 ≤ y ∧ y ≤ 18437736874454810625 from fun y hy => by
                obtain ⟨b, hb, _, h2⟩ := (G2.out y).1 (HP.out.mem_iff.1 hy)
                rw [← h2]
                exact fkey_bounds (hwf.out b hb))
              clear G1 G2 HP HS hgot
              go_loopg [8, 43] (ks.length + 1) (fun kq v8 v43 w' => ∃ (x : Int) (i : Nat) (os : List Nat), v43 = .int .i64 x ∧ Aside0 (x = i) ∧ Aside0 (i ≤ ks.length) ∧ Aside0 (ks.length - i < kq) ∧ Aside0 (Kd.R (Kd.int .u64) 23 w' w.heap.size (fun k => rb < k) (.slice A6 ks.length c6) ys) ∧ Aside0 (os = (ys.take i).map atBits) ∧ Aside0 (Kd.R Kd.f64 26 w' w.heap.size (fun _ => True) v8 os) ∧ Aside0 (Below w.heap.size w w'))
              case atStart => exact ⟨0, 0, [], rfl, ⟨rfl⟩, ⟨Nat.zero_le _⟩, ⟨by omega⟩, HR, ⟨rfl⟩, ⟨Kd.R_nil _ _ _ _ _⟩, HB⟩
              case round =>
                clear HR HB
                obtain ⟨x3, i, os, rfl, hx3, hi3, hk3, HR, hos, HO, HB⟩ := hrel
                obtain ⟨A8, c8, rfl⟩ := Kd.R_slice HO.out
                cases gk with
                | zero => exact absurd hk3.out (by omega)
                | succ k3 =>
                  by_cases hend : ks.length ≤ i
                  · have cnd3 : decide (x3 < (ks.length : Int)) = false := decide_eq_false (by have := hx3.out; omega)
                    have HF := Aside0.mk (show os = ys.map atBits by rw [hos.out, List.take_of_length_le (by have := LE.out; omega)])
                    clear hend
                    go_wp2_with (fail)
                    go_ret
                    exact ⟨_, ys, rfl, DO.out, by rw [← HF.out]; exact HO.out, HB.out⟩
                  · have hlt : i < ks.length := by omega
                    have cnd3 : decide (x3 < (ks.length : Int)) = true := decide_eq_true (by have := hx3.out; omega)
                    have p1 : 0 ≤ x3 := by have := hx3.out; omega
                    have p2 : x3 < (ys.length : Int) := by have := hx3.out; have := LE.out; omega
                    obtain ⟨ad, rfl, e1⟩ := Kd.at_int (Kd.R_reads' HR.out).2.2 x3 p1 p2
                    have hlt2 : i < ys.length := by have := LE.out; omega
                    obtain ⟨y, hy⟩ : ∃ y, y = rd ys x3 := ⟨_, rfl⟩
                    rw [← hy] at e1
                    have hy2 : y = ys[i] := by
                      rw [hy, hx3.out]
                      unfold rd
                      rw [Int.toNat_natCast, List.getD_eq_getElem?_getD, List.getElem?_eq_getElem hlt2]
                      rfl
                    have YB := Aside0.mk (KB.out y (hy2 ▸ List.getElem_mem hlt2))
                    have SN := Aside0.mk (show os ++ [atBits y] = (ys.take (i + 1)).map atBits by
                      rw [hos.out, List.take_succ_eq_append_getElem hlt2, List.map_append, hy2]; rfl)
                    have LN := Aside0.mk (show os.length = i by rw [hos.out]; simp; omega)
                    have HLT := Aside0.mk hlt
                    replace p2 : x3 < (ks.length : Int) := by have := LE.out; omega
                    replace p1 := eq_true p1
                    replace p2 := eq_true p2
                    clear hy2 hy hlt hlt2 hend
                    go_wp2_with (first | (go_at_call 26; refine (at_in y YB.out.1 YB.out.2 _).mono ?_; rintro e w' ⟨rfl, rfl⟩) | ((with_reducible refine gate_builtin (b := .append) (xs := #[.tmp 52, .tmp 54]) rfl ?_); at_builtin; refine Kd.R_append Kd.f64 (w0 := w) w.heap.size rfl (.tmp 52) (.tmp 54) 24 26 (.float .f64 0) 8 rfl Try.underlying24 infoF64 rfl (by decide) (by omega) (.slice A8 os.length c8) os (atBits y) [.float .f64 (atBits y)] (fun _ => True) (fun _ => False) rfl rfl rfl (fun _ hk => hk.elim) (fun _ _ => trivial) (kR HO) (kB0 HB) (below_size (kB0 HB)) (by rw [LN.out]; have := HLT.out; have := hlen.out; have := hsz.out; omega) ?_; intro v9 w9 ho hb hg hat; have r1_ := Aside0.mk (Kd.R_over' HR.out (Kd.R_typed HO.out) (by decide) hg); clear HB HR HO e1; have HB := Aside0.mk hb; have HR := r1_; have HO := Aside0.mk ho; clear r1_ hb ho hg hat))
                    go_roundg k3
                    case measure => exact Nat.lt_succ_self _
                    case rel => exact ⟨_, i + 1, os ++ [atBits y], rfl, ⟨by have := hx3.out; have := HLT.out; have := hlen.out; have := hsz.out; unfold wrap64; omega⟩, ⟨by have := HLT.out; omega⟩, ⟨by have := hk3.out; have := HLT.out; omega⟩, HR, SN, HO, HB⟩
            · intro x c2 w1 cnt1 hwx hwc hlx hat2 hrg1 hlt hg1 hs1 hen
              have HX := Aside0.mk (has_of_at hat2)
              have HLX := Aside0.mk hlx
              have R1 := Aside0.mk hrg1
              have LT := Aside0.mk hlt
              have RL := Aside0.mk (show rb < w1.heap.size from hrg1.lt)
              have n0_ := Aside0.mk (Below.grown HB.out hg1 (below_size HB.out) (fun k hk => by cases hk; exact Nat.le_of_lt WL.out))
              have r0_ := Aside0.mk (Kd.R_grown HR.out hg1 (fun k hk e => by injection e with e; omega))
              clear HB HR hrg hat2 hlx hrg1 hlt hg1 hs1 hwx hwc
              have HB := n0_
              have HR := r0_
              clear n0_ r0_
              go_wp2_with (first | ((with_reducible refine gate_builtin (b := .append) (xs := #[.tmp 35, .tmp 37]) rfl ?_); at_builtin; refine Kd.R_append (Kd.int .u64) (w0 := w) w.heap.size rfl (.tmp 35) (.tmp 37) 22 23 (.int .u64 0) 8 rfl Try.underlying22 info64 rfl (by decide) (by omega) (.slice A6 ks.length c6) ks x [.int .u64 x] (fun k => rb < k) (fun _ => False) rfl rfl rfl (fun _ hk => hk.elim) (fun k hk => by have := RL.out; omega) (kR HR) (kB0 HB) (below_size (kB0 HB)) (by have := hlen.out; have := LT.out; have := hsz.out; omega) ?_; intro v7 w7 ho hb hg hat; have r1_ := Aside0.mk (R1.out.kept hg (fun e => by have := HR.out.1 _ e.symm; have := WL.out; omega) (fun e => by have := HR.out.1 _ e.symm; omega)); clear HB HR R1; have HB := Aside0.mk hb; have HR := Aside0.mk ho; have R1 := r1_; clear r1_ hb ho hg hat))
              go_roundg k2
              case measure => exact Nat.lt_succ_self _
              case rel => exact ⟨_, cnt1, ks ++ [x], R1, ⟨by have := LT.out; have := hk2.out; omega⟩, ⟨by have := LT.out; have := hlen.out; simp; omega⟩, ⟨got_step hgot.out HLX.out HX.out⟩, HR, HB⟩
      · have hlt : n < l.length := by omega
        have cnd : decide (x < (l.length : Int)) = true := decide_eq_true (by have := hx.out; omega)
        have p1 : 0 ≤ x := by have := hx.out; omega
        have p2 : x < (l.length : Int) := by have := hx.out; omega
        obtain ⟨ad, rfl, e1⟩ := Kd.at_f64 hl.out x p1 p2
        replace e1 := (HB.out.cell (World.block_lt_of_cell? w _ e1)).trans e1
        have hxx := hx.out
        obtain ⟨b, hbb⟩ : ∃ b, b = rdOf (0 : Nat) l x := ⟨_, rfl⟩
        rw [← hbb] at e1
        have hb2 : b = l[n] := by
          rw [hbb, hxx]
          unfold rdOf
          rw [Int.toNat_natCast, List.getD_eq_getElem?_getD, List.getElem?_eq_getElem hlt]
          rfl
        have hb64 : Aside0 (b < 2 ^ 64) := ⟨hwf.out b (hb2 ▸ List.getElem_mem hlt)⟩
        have hq := f_eql b b hb64.out hb64.out
        rw [fEq_self] at hq
        have FB := Aside0.mk (fkey_bounds hb64.out)
        have B2 := Aside0.mk (show ∃ h : n < l.length, b = l[n] from ⟨hlt, hb2⟩)
        have HLT := Aside0.mk hlt
        have PP := Aside0.mk (And.intro p1 p2)
        replace p1 := eq_true p1
        replace p2 := eq_true p2
        clear hb2 hlt hbb hxx hend
        by_cases nn : isNaN b = true
        · rw [nn] at hq
          have NN := Aside0.mk nn
          clear nn
          go_wp2_with (fail)
          go_roundg k1
          case measure => exact Nat.lt_succ_self _
          case rel => exact ⟨_, n + 1, D, rfl, ⟨by have := hx.out; have := HLT.out; have := hsz.out; unfold wrap64; omega⟩, ⟨by have := HLT.out; omega⟩, ⟨by have := hk.out; have := HLT.out; omega⟩, ⟨hown.out.mono (Nat.le_succ _)⟩, ⟨by obtain ⟨h1, h2⟩ := B2.out; exact hasOf_skip hat.out h1 (h2 ▸ NN.out)⟩, ⟨kB0 HB⟩⟩
        · have nn : isNaN b = false := by simpa using nn
          rw [nn] at hq
          have NN := Aside0.mk nn
          clear nn
          obtain ⟨fk, hfk⟩ : ∃ fk, fk = fkey b := ⟨_, rfl⟩
          have FK := Aside0.mk hfk
          have hkey : Aside0 (keyOf Try.prog 23 (.int .u64 fk) = some (.int .u64 fk)) := ⟨keyOf_int_mk Try.underlying23 (by have := FB.out; rw [← hfk] at this; simp [Lit.wf, IntKind.min, IntKind.max, IntKind.signed, IntKind.bits]; omega)⟩
          clear hfk
          go_wp2_with (first | (go_at_call 24; refine (key_any b hb64.out _).mono ?_; rintro e w' ⟨rfl, rfl⟩; rw [← FK.out]) | (at_lookup; refine wpList_lookup_own_int _ rfl _ _ 44 rfl 23 3 .i64 law64 Try.underlying44 Try.underlying3 (zeroI _) w.heap.size n _ rfl hown.out _ _ rfl hkey.out ?_; intro c2 hat2 hwc) | (at_mapUpdate; refine wpList_mapUpdate_own _ rfl _ _ _ 44 rfl 23 3 law64 Try.underlying44 _ w.heap.size n _ rfl hown.out (by have := HLT.out; have := hsz.out; unfold maxLen; omega) _ _ _ rfl rfl hkey.out _ [] (plainElem_int Try.underlying3 (wrap64_wf _)) ?_; intro w5 hown1 hgrow1; have O5 := Aside0.mk hown1; have n1_ := Aside0.mk ((kB0 HB : Below w.heap.size w _).grown hgrow1 (below_size (kB0 HB)) (fun j hj => by cases hj; exact Nat.le_refl _)); clear HB; have HB := n1_; clear n1_ hown1 hgrow1))
          go_roundg k1
          case measure => exact Nat.lt_succ_self _
          case rel => exact ⟨_, n + 1, _, rfl, ⟨by have := hx.out; have := HLT.out; have := hsz.out; unfold wrap64; omega⟩, ⟨by have := HLT.out; omega⟩, ⟨by have := hk.out; have := HLT.out; omega⟩, O5, ⟨by obtain ⟨h1, h2⟩ := B2.out; have h3 := hasOf_put hown.out.isMap (.lit (.int .i64 (wrap64 (c2 + 1)))) hat.out h1 (h2 ▸ NN.out); rw [← h2, ← FK.out] at h3; exact h3⟩, HB⟩
end Go.Proofs.Ytdhiljimmijghaa.FAll
