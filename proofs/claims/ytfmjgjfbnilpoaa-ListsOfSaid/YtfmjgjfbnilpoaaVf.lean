/-
 ListsOf, plain: copies of trees, and that what lists.Of answers is but one list; thicketref14.Of of trees with an error.
-/
import Derived.Test.YtfmjgjfbnilpoaaZq
import Derived.Test.YtfmjgjfbnilpoaaVd
import Derived.Test.YtfmjgjfbnilpoaaQt
import Derived.Test.YtfmjgjfbnilpoaaOe
namespace Go.Proofs.Ytfmjgjfbnilpoaa.FAll
open Go.RowKit Go.Sort Go.Maps Go.Shelf YtfmjgjfbnilpoaaW.PrintWords YtfmjgjfbnilpoaaW.PrintLast YtfmjgjfbnilpoaaW.PrintMore BTree
set_option linter.unusedVariables false
set_option linter.unusedSimpArgs false
theorem nodes_ev (ns : List S71) (hn : ns.length ≤ 1759218604441) (hc : ∀ x ∈ ns, x.f4.length < 17592186044416) : ∀ (d i : Nat) (x3 : List S71), i + d = ns.length → x3.length = i → Ev (fun k => thicketref07_Nodes.l0 k x3 ns (ns.length : Int) (i : Int)) (x3 ++ ns.drop i) := by
 intro d
 induction d with
 | zero =>
  intro i x3 hi hx
  refine Ev.step (f := fun k => _) (fun k => rfl) ?_
  refine evn (by omega) ?_
  refine eve (Ev.now _) ?_
  rw [List.drop_eq_nil_of_le (by omega), List.append_nil]
 | succ d ih =>
  intro i x3 hi hx
  have hlt : i < ns.length := by omega
  have e1 := inc64 i (by omega)
  refine Ev.step (f := fun k => _) (fun k => rfl) ?_
  refine evp (by omega) (evp (by omega) (evp (by omega) (evp ?_ (evp (by omega) ?_))))
  ·have := hc _ (rdN_mem (ns := ns) (i := (i : Int)) (by omega) (by omega))
   simpa using this
  ·rw [e1, drop_cons_rdN ns i hlt]
   refine eve (ih (i + 1) _ (by omega) (by rw [List.length_append, hx]; rfl)) ?_
   rw [List.append_assoc, List.nil_append]
   rfl
theorem nodes_total (ns : List S71) (hn : ns.length ≤ 1759218604441) (hc : ∀ x ∈ ns, x.f4.length < 17592186044416) : Ev (fun k => thicketref07_Nodes.f k ns) ns := nodes_ev ns hn hc ns.length 0 [] (Nat.zero_add _) rfl
theorem copy_ev (ts : List S53) (hl : ts.length ≤ 4398046511103) (hs : ∀ y ∈ ts, y.f1.length ≤ 1759218604441 ∧ ∀ x ∈ y.f1, x.f4.length < 17592186044416) (a : ByteArray) (b : List ByteArray) (o : Int) (f : List Int) (t : List S53) : ∀ (d i : Nat) (x5 : List S53), i + d = ts.length → x5.length = i → Ev (fun k => thicketref07_Copy.l0 k x5 ts (ts.length : Int) (i : Int) a b o f t) (a, b, o, f, x5 ++ ts.drop i) := by
 intro d
 induction d with
 | zero =>
  intro i x5 hi hx
  refine Ev.step (f := fun k => _) (fun k => rfl) ?_
  refine evn (by omega) ?_
  refine eve (Ev.now _) ?_
  rw [List.drop_eq_nil_of_le (by omega), List.append_nil]
 | succ d ih =>
  intro i x5 hi hx
  have hlt : i < ts.length := by omega
  have e1 : wrap64 ((i : Int) + 1) = ((i + 1 : Nat) : Int) := by unfold wrap64; omega
  refine Ev.step (f := fun k => _) (fun k => rfl) ?_
  have hm := hs _ (rdT_mem ts i hlt)
  refine evp (by omega) (evp (by omega) (evp (by omega) (Ev.bind (nodes_total _ hm.1 hm.2) (evp (by omega) ?_))))
  rw [e1, drop_cons_rd ts i hlt]
  refine eve (ih (i + 1) _ (by omega) (by rw [List.length_append, hx]; rfl)) ?_
  rw [List.append_assoc]
  rfl
theorem copied_total (ts : List S53) (hl : ts.length ≤ 4398046511103) (hs : ∀ y ∈ ts, y.f1.length ≤ 1759218604441 ∧ ∀ x ∈ y.f1, x.f4.length < 17592186044416) : ∃ k, thicketlaw14_copied.f k ts = some ts := by
 refine Ev.rounds ?_
 unfold thicketlaw14_copied.f thicketref07_Copy.f
 refine Ev.bind (a := ((⟨#[]⟩ : ByteArray), ([] : List ByteArray), (0 : Int), ([] : List Int), ts)) ?_ (Ev.now _)
 exact evp (by decide) (evp (by decide) (copy_ev ts hl hs _ _ _ _ _ ts.length 0 [] (Nat.zero_add _) rfl))
theorem feats_eq : ∀ {ys zs : List S35}, ys.Pairwise (fun a b => a.f0 < b.f0) → zs.Pairwise (fun a b => a.f0 < b.f0) → (∀ f, (∃ y ∈ ys, y.f0 = f) ↔ ∃ z ∈ zs, z.f0 = f) → (∀ y ∈ ys, ∀ z ∈ zs, y.f0 = z.f0 → y = z) → ys = zs
 | [], [], _, _, _, _ => rfl
 | [], z :: zs, _, _, h, _ => by obtain ⟨y, hy, _⟩ := (h z.f0).2 ⟨z, List.mem_cons_self, rfl⟩; exact absurd hy List.not_mem_nil
 | y :: ys, [], _, _, h, _ => by obtain ⟨z, hz, _⟩ := (h y.f0).1 ⟨y, List.mem_cons_self, rfl⟩; exact absurd hz List.not_mem_nil
 | y :: ys, z :: zs, h1, h2, h, he => by
  obtain ⟨a1, a2⟩ := List.pairwise_cons.1 h1
  obtain ⟨b1, b2⟩ := List.pairwise_cons.1 h2
  have e : y.f0 = z.f0 := by
   obtain ⟨z', hz', e1⟩ := (h y.f0).1 ⟨y, List.mem_cons_self, rfl⟩
   obtain ⟨y', hy', e2⟩ := (h z.f0).2 ⟨z, List.mem_cons_self, rfl⟩
   rcases List.mem_cons.1 hz' with rfl | hz'
   ·exact e1.symm
   ·rcases List.mem_cons.1 hy' with rfl | hy'
    ·exact e2
    ·have := b1 z' hz'
     have := a1 y' hy'
     omega
  have hyz := he y List.mem_cons_self z List.mem_cons_self e
  subst hyz
  rw [feats_eq a2 b2 (fun f => ?_) (fun y' hy' z' hz' => he y' (List.mem_cons_of_mem _ hy') z' (List.mem_cons_of_mem _ hz'))]
  constructor
  ·rintro ⟨y', hy', rfl⟩
   obtain ⟨z', hz', e'⟩ := (h y'.f0).1 ⟨y', List.mem_cons_of_mem _ hy', rfl⟩
   rcases List.mem_cons.1 hz' with rfl | hz'
   ·have := a1 y' hy'; omega
   ·exact ⟨z', hz', e'⟩
  ·rintro ⟨z', hz', rfl⟩
   obtain ⟨y', hy', e'⟩ := (h z'.f0).2 ⟨z', List.mem_cons_of_mem _ hz', rfl⟩
   rcases List.mem_cons.1 hy' with rfl | hy'
   ·have := b1 z' hz'; omega
   ·exact ⟨y', hy', e'⟩
theorem OfSpec.unique {E : List (S71 × S56)} {ys zs : List S35} (h : OfSpec E ys) (h2 : OfSpec E zs) : ys = zs := by
 refine feats_eq h.rises h2.rises (fun f => (h.mem f).trans (h2.mem f).symm) (fun y hy z hz e => ?_)
 obtain ⟨a1, a2, a3, a4⟩ := h.rows y hy
 obtain ⟨b1, b2, b3, b4⟩ := h2.rows z hz
 have e1 : StEq ltC y.f1 z.f1 := (fun x => by rw [b1 x, a1 x, e])
 have h1 : z.f1 = y.f1 := StEq.unique swoC _ _ e1 a2 b2
 obtain ⟨y0, y1, y2, y3⟩ := y
 obtain ⟨z0, z1, z2, z3⟩ := z
 simp only at e h1 a3 a4 b3 b4
 subst e
 rw [h1, a3, a4, b3, b4]
set_option maxRecDepth 100000 in
theorem ref14_Of.bad (w : World) (A : Option Addr) (c : Nat) (ts : List S53) (F : Int) (hts : Aside0 (Kd.C k53 w A ts.length ts)) (hc : Aside0 (ts.length ≤ c)) (hsm : SmallU ts) (hf0 : faultV F ts ≠ 0) :
  Calls Try.prog 9 #[.slice A ts.length c, .int .i64 F] w fun e w' => e = .returned (.tuple #[.slice none 0 0, .int .i64 (faultV F ts)]) ∧ Below w.heap.size w w' := by
 obtain ⟨ke, hke⟩ := error_f F ts hsm.t hsm.nodes
 obtain ⟨r, hr⟩ : ∃ r, r = faultV F ts := ⟨_, rfl⟩
 rw [← hr] at hf0 hke ⊢
 have KE := aS_ hke
 have c1_ : (r != 0) = true := bne_iff_ne.mpr hf0
 have c2_ := eq_false hf0
 clear hsm hf0 hr hke
 go_enter Try.func9, Try.ntmps9
 go_wp2_with (first | (go_at_call 30; refine (thicketref14_Error.calls ke A c ts F r _ hts.out hc.out KE.out).mono ?_; rintro e w3 ⟨rfl, hb⟩; have HB := aS_ hb; clear hb))
 go_ret2
 exact ⟨rfl, HB.out⟩
set_option maxRecDepth 100000 in
theorem kept_same (w : World) (A B : Option Addr) (c d : Nat) (ts : List S53) (ha : Aside0 (Kd.C k53 w A ts.length ts)) (hb : Aside0 (Kd.C k53 w B ts.length ts)) :
  Calls Try.prog 11 #[.slice A ts.length c, .slice B ts.length d] w fun e w' => e = .returned (.bool true) ∧ Below w.heap.size w w' := by
 go_enter Try.func11, Try.ntmps11
 go_wp2_with (first | (go_at_call 33; refine (same_same ByteArray.empty [] 0 [] ts none 0 none 0 A c none 0 none 0 B d _ ⟨Kd.C_nil _ _⟩ ⟨Kd.C_nil _ _⟩ ha ⟨Kd.C_nil _ _⟩ ⟨Kd.C_nil _ _⟩ hb).mono ?_; rintro e w3 ⟨rfl, hbq⟩; have HB := aS_ hbq; clear hbq))
 go_ret
 exact ⟨rfl, HB.out⟩
/-- What is known of the sizes of trees that came in. -/
structure InL (ts : List S53) : Prop where
 len : ts.length ≤ 4398046511103
 small : SmallU ts
 cats : ∀ y ∈ ts, ∀ x ∈ y.f1, x.f4.length < 17592186044416
theorem InL.copy {ts : List S53} (h : InL ts) : ∃ k, thicketlaw14_copied.f k ts = some ts :=
 copied_total ts h.len fun y hy => ⟨h.small.nodes y hy, h.cats y hy⟩
set_option maxRecDepth 100000 in
theorem listsOf_good (w : World) (A : Option Addr) (c : Nat) (ts : List S53) (F : Int) (hts : Aside0 (Kd.C k53 w A ts.length ts)) (hc : Aside0 (ts.length ≤ c)) (hsm : InL ts) (hf0 : faultV F ts = 0) :
  Calls Try.prog 3 #[.slice A ts.length c, .int .i64 F] w fun e w' => e = .returned (.bool true) ∧ Below w.heap.size w w' := by
 have SM := aS_ hsm.small
 have F0 := aS_ hf0
 obtain ⟨kc, hkc⟩ := hsm.copy
 have KC := aS_ hkc
 clear hsm hf0 hkc
 go_enter Try.func3, Try.ntmps3
 go_wp2_with (first | (go_at_call 7; refine (thicketlaw14_copied.calls kc A c ts ts _ hts.out hc.out KC.out).mono ?_; rintro e w1 ⟨v1, rfl, hr, hb⟩; obtain ⟨A1, c1, rfl, l1, g1⟩ := Kd.R_reads hr; have G1 := aS_ g1; have L1 := aS_ l1; have B1 := aS_ hb; clear hr hb l1 g1) | (go_at_call 8; refine (lists_Of.calls _ A1 c1 ts F G1 SM.out F0.out).mono ?_; rintro e w2 ⟨v2, ys, rfl, hs, hr, hb⟩; obtain ⟨A2, c2, rfl, l2, g2⟩ := Kd.R_reads hr; have S2 := aS_ hs; have G2 := aS_ g2; have B2 := aS_ (below_step B1.out hb); have H1 := aS_ (Kd.C_below G1.out hb); clear hr hb l2 g2 hs) | (go_at_call 9; refine (ref14_Of.calls _ A c ts F ⟨Kd.C_below hts.out B2.out⟩ hc SM.out F0.out).mono ?_; rintro e w3 ⟨v3, zs, rfl, hs, hr, hb⟩; have hu := S2.out.unique hs; subst hu; obtain ⟨A3, c3, rfl, l3, g3⟩ := Kd.R_reads hr; have G3 := aS_ g3; have H2 := aS_ (Kd.C_below G2.out hb); have J1 := aS_ (Kd.C_below H1.out hb); have B3 := aS_ (below_step B2.out hb); clear hr hb l3 g3 hs) | (go_at_call 10; refine (lists_same _ A2 c2 A3 c3 ys H2 G3).mono ?_; rintro e w4 ⟨rfl, hd⟩; have J2 := aS_ (Kd.C_below J1.out hd.below); have B4 := aS_ (below_step B3.out hd.below); clear hd) | (go_at_call 11; refine (kept_same _ A1 A c1 c ts J2 ⟨Kd.C_below hts.out B4.out⟩).mono ?_; rintro e w5 ⟨rfl, hb⟩; have B5 := aS_ (below_step B4.out hb); clear hb))
 go_ret
 exact ⟨rfl, B5.out⟩
set_option maxRecDepth 100000 in
theorem listsOf_bad (w : World) (A : Option Addr) (c : Nat) (ts : List S53) (F : Int) (hts : Aside0 (Kd.C k53 w A ts.length ts)) (hc : Aside0 (ts.length ≤ c)) (hsm : InL ts) (hf0 : faultV F ts ≠ 0) :
  Calls Try.prog 3 #[.slice A ts.length c, .int .i64 F] w fun e w' => e = .returned (.bool true) ∧ Below w.heap.size w w' := by
 have SM := aS_ hsm.small
 have F0 := aS_ hf0
 obtain ⟨kc, hkc⟩ := hsm.copy
 have KC := aS_ hkc
 obtain ⟨r, hr⟩ : ∃ r, r = faultV F ts := ⟨_, rfl⟩
 have RR := aS_ hr
 clear hsm hf0 hkc hr
 go_enter Try.func3, Try.ntmps3
 go_wp2_with (first | (go_at_call 7; refine (thicketlaw14_copied.calls kc A c ts ts _ hts.out hc.out KC.out).mono ?_; rintro e w1 ⟨v1, rfl, hr, hb⟩; obtain ⟨A1, c1, rfl, l1, g1⟩ := Kd.R_reads hr; have G1 := aS_ g1; have L1 := aS_ l1; have B1 := aS_ hb; clear hr hb l1 g1) | (go_at_call 8; refine (lists_Of.bad _ A1 c1 ts F G1 SM.out F0.out).mono ?_; rw [← RR.out]; rintro e w2 ⟨rfl, hb⟩; have B2 := aS_ (below_step B1.out hb); have H1 := aS_ (Kd.C_below G1.out hb); clear hb) | (go_at_call 9; refine (ref14_Of.bad _ A c ts F ⟨Kd.C_below hts.out B2.out⟩ hc SM.out F0.out).mono ?_; rw [← RR.out]; rintro e w3 ⟨rfl, hb⟩; have J1 := aS_ (Kd.C_below H1.out hb); have B3 := aS_ (below_step B2.out hb); clear hb) | (go_at_call 10; refine (lists_same _ none 0 none 0 [] ⟨Kd.C_nil _ _⟩ ⟨Kd.C_nil _ _⟩).mono ?_; rintro e w4 ⟨rfl, hd⟩; have J2 := aS_ (Kd.C_below J1.out hd.below); have B4 := aS_ (below_step B3.out hd.below); clear hd) | (go_at_call 11; refine (kept_same _ A1 A c1 c ts J2 ⟨Kd.C_below hts.out B4.out⟩).mono ?_; rintro e w5 ⟨rfl, hb⟩; have B5 := aS_ (below_step B4.out hb); clear hb))
 go_ret
 exact ⟨rfl, B5.out⟩
theorem InL.of_ok {ts : List S53} (h : okTrees ts) : InL ts := by
 obtain ⟨h1, h2⟩ := h
 refine ⟨by omega, ⟨fun y hy => ?_, fun y hy x hx => ?_, fun y hy x hx => ?_⟩, fun y hy x hx => ?_⟩ <;> obtain ⟨_, hn, hn2⟩ := h2 y hy
 ·omega
 ·obtain ⟨_, _, _, _, h4, _⟩ := hn2 x hx
  have := h4.1
  omega
 ·obtain ⟨_, _, _, h3, _⟩ := hn2 x hx
  exact h3
 ·obtain ⟨_, _, _, _, h4, _⟩ := hn2 x hx
  have := h4.1
  omega
/-- Whatever the trees. -/
theorem listsOf_any (w : World) (A : Option Addr) (c : Nat) (ts : List S53) (F : Int) (hts : Kd.C k53 w A ts.length ts) (hc : ts.length ≤ c) (ok : okTrees ts) :
  Calls Try.prog 3 #[.slice A ts.length c, .int .i64 F] w fun e w' => e = .returned (.bool true) ∧ Below w.heap.size w w' := by
 by_cases h0 : faultV F ts = 0
 ·exact listsOf_good w A c ts F ⟨hts⟩ ⟨hc⟩ (.of_ok ok) h0
 ·exact listsOf_bad w A c ts F ⟨hts⟩ ⟨hc⟩ (.of_ok ok) h0
end Go.Proofs.Ytfmjgjfbnilpoaa.FAll
