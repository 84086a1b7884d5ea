/-
 From a row's reading of an argument to the print's reading: for every kind (numbers, bools, strings, binary64s, slices, structs), with what is known of the sizes.
-/
import Derived.Test.YtfmjgjfbnilpoaaFw
import Derived.Deep.Slices
import Derived.Laws.Cover2
import Derived.OpenShut
import Derived.SizedLaws
namespace Go.Proofs.YtfmjgjfbnilpoaaW.PrintWords
open Go.RowKit Go.ChangeShapes Go.WideShapes
set_option linter.unusedVariables false

theorem cells_at {w : World} {base : Nat} {a : Addr} {n : Nat} {cs : List Value} (h : w.cells? base a n = some cs) : cs.length = n ∧ ∀ j u, cs[j]? = some u → w.cell? (a.add j) = some u := by
 obtain ⟨_, hl, hc⟩ := World.cells?_some h
 exact ⟨hl, fun j u hu => by
  have hj : j < n := by
   have := (List.getElem?_eq_some_iff.1 hu).1
   omega
  rw [← hu]
  exact hc j hj⟩

/-- What of this type can be read is of this kind; Ok: what is known of it. -/
structure Opens (P : Program) (t : TypeId) {α : Type} (d : Kd α) (Ok : α → Prop) : Prop where
 sz : P.cellsOf t = d.sz
 opn : ∀ {H : Type} {enc : TypeId × Value → H} {w : World} {base : Nat} {spare : Nat → Bool} {held : Bool} (fuel : Nat) (cs : List Value) (x : DataW H × List MemPlace),
  DataW.trod enc P w base spare held fuel t cs = some x → (∀ n ∈ x.1.weights P t, n ≤ reachBytes) → ∃ a : α, d.K w a cs ∧ Ok a

variable {P : Program}

theorem opens_int {t : TypeId} {k : IntKind} (ht : P.underlying t = some (.int k)) (hc : P.cellsOf t = 1) : Opens P t (Kd.int k) (fun a => (Lit.int k a).wf = true) where
 sz := hc
 opn := by
  intro H enc w base spare held fuel cs x h _
  obtain ⟨a, rfl, _, hw⟩ := DataW.trod_int ht h
  exact ⟨a, rfl, hw⟩

theorem opens_bool {t : TypeId} (ht : P.underlying t = some .bool) (hc : P.cellsOf t = 1) : Opens P t Kd.bool (fun _ => True) where
 sz := hc
 opn := by
  intro H enc w base spare held fuel cs x h _
  cases fuel with
  | zero => simp [DataW.trod] at h
  | succ m =>
   unfold DataW.trod at h
   rw [ht] at h
   split at h <;> first | (exact ⟨_, rfl, trivial⟩) | simp_all

theorem opens_string {t : TypeId} (ht : P.underlying t = some .string) (hc : P.cellsOf t = 1) : Opens P t Kd.string (fun s => s.size ≤ 140737488351232) where
 sz := hc
 opn := by
  intro H enc w base spare held fuel cs x h hw
  cases fuel with
  | zero => simp [DataW.trod] at h
  | succ m =>
   unfold DataW.trod at h
   rw [ht] at h
   split at h <;> simp_all
   obtain ⟨_, rfl⟩ := h
   refine ⟨_, rfl, ?_⟩
   have := hw _ (by simp only [DataW.weights, List.mem_singleton]; rfl)
   exact this

theorem opens_f64 {t : TypeId} (ht : P.underlying t = some (.float .f64)) (hc : P.cellsOf t = 1) : Opens P t Kd.f64 (fun b => b < 2 ^ 64) where
 sz := hc
 opn := by
  intro H enc w base spare held fuel cs x h _
  cases fuel with
  | zero => simp [DataW.trod] at h
  | succ m =>
   unfold DataW.trod at h
   rw [ht] at h
   split at h <;> simp_all
   obtain ⟨⟨e, hw⟩, _⟩ := h
   subst_vars
   exact ⟨_, rfl, by simpa [Lit.wf] using hw⟩

theorem weightsAll_mem {H : Type} {t : TypeId} {l : List (DataW H)} {d : DataW H} (hd : d ∈ l) : ∀ n ∈ d.weights P t, n ∈ DataW.weightsAll P t l := by
 induction l with
 | nil => cases hd
 | cons x l ih =>
  intro n hn
  simp only [DataW.weightsAll, List.mem_append]
  rcases List.mem_cons.1 hd with rfl | hd
  ·exact .inl hn
  ·exact .inr (ih hd n hn)

theorem opens_slice {t e b : Nat} {α : Type} {d : Kd α} {Ok : α → Prop} (ht : P.underlying t = some (.slice e)) (hc : P.cellsOf t = 1) (hb0 : P.bytesOf e = b) (h : Opens P e d Ok) :
  Opens P t (Kd.slice e d) (fun xs => xs.length * b ≤ 140737488351232 ∧ ∀ x ∈ xs, Ok x) where
 sz := hc
 opn := by
  intro H enc w base spare held fuel cs x hx hw
  rcases Deep.open_slice ht hx with ⟨rfl, rfl⟩ | ⟨a, len, cap, m, n, D, Pl, rfl, hb, hl, hm, hmm, rfl, hel⟩
  ·exact ⟨[], ⟨none, 0, rfl, Nat.le_refl _, Kd.C_nil d w⟩, by simp⟩
  ·have hlm : len ≤ m := by rw [hmm]; split <;> omega
   have hw0 : (len + (m - len)) * P.bytesOf e ≤ reachBytes := by
    refine hw _ ?_
    simp [DataW.weights, ht]
   rw [hb0] at hw0
   have hex : ∀ i, i < len → ∃ p : α × List Value, w.cells? base (a.add (i * P.cellsOf e)) (P.cellsOf e) = some p.2 ∧ d.K w p.1 p.2 ∧ Ok p.1 := by
    intro i hi
    obtain ⟨cs', h1, h2⟩ := hel i (by omega)
    obtain ⟨y, hy, ho⟩ := h.opn n cs' (D i, Pl i) h2 (fun n' hn' => hw n' (by
     simp only [DataW.weights, ht, List.mem_cons, List.mem_append]
     exact .inr (.inl (weightsAll_mem (List.mem_map.2 ⟨i, List.mem_range.2 hi, rfl⟩) n' hn'))))
    exact ⟨(y, cs'), h1, hy, ho⟩
   rcases Nat.eq_zero_or_pos len with hz | hp
   ·subst hz
    exact ⟨[], ⟨some a, cap, rfl, by simp, ⟨rfl, by simp, fun hh => absurd hh (Nat.lt_irrefl 0)⟩⟩, by simp⟩
   ·obtain ⟨p0, _⟩ := hex 0 hp
    have : Inhabited (α × List Value) := ⟨p0⟩
    obtain ⟨f, hf⟩ := Deep.choose_lt hex
    have hlen : ((List.range len).map fun i => (f i).1).length = len := by simp
    refine ⟨(List.range len).map fun i => (f i).1, ⟨some a, cap, by rw [hlen], by rw [hlen]; exact hl, ⟨rfl, ?_, fun _ => ⟨a, rfl, ?_⟩⟩⟩, ?_, ?_⟩
    ·rw [hlen]; unfold maxLen at hm; omega
    ·intro j p hj
     obtain ⟨hjl, hjp⟩ := List.getElem?_eq_some_iff.1 hj
     rw [hlen] at hjl
     have e2 : (f j).1 = p := by rw [← hjp]; simp
     obtain ⟨h1, h2, _⟩ := hf j hjl
     obtain ⟨hl2, hc2⟩ := cells_at h1
     refine ⟨(f j).2, by rw [hl2, h.sz], by rw [← e2]; exact h2, fun i u hu => ?_⟩
     have := hc2 i u hu
     rw [Deep.add_add, h.sz] at this
     exact this
    ·rw [hlen]
     refine Nat.le_trans (Nat.mul_le_mul_right _ (show len ≤ len + (m - len) by omega)) (Nat.le_trans hw0 ?_)
     decide
    ·intro y hy
     obtain ⟨i, hi, rfl⟩ := List.mem_map.1 hy
     exact (hf i (List.mem_range.1 hi)).2.2

/-! ### structs: field by field -/
structure OpensF (P : Program) (fs : List Go.Field) (off : Nat) {α : Type} (d : Kd α) (Ok : α → Prop) : Prop where
 opn : ∀ {H : Type} {enc : TypeId × Value → H} {w : World} {base : Nat} {spare : Nat → Bool} {held : Bool} (fuel : Nat) (cs : List Value) (ys : List (DataW H × List MemPlace)),
  ys.length = fs.length → (∀ (i : Nat) (f : Go.Field), fs[i]? = some f → DataW.trod enc P w base spare held fuel f.type ((cs.drop f.offset).take (P.cellsOf f.type)) = ys[i]?) →
  (∀ n ∈ DataW.weightsEach P (fs.map (·.type)) (ys.map (·.1)), n ≤ reachBytes) → off + d.sz = cs.length → ∃ a : α, d.K w a (cs.drop off) ∧ Ok a

theorem opensF_one {f : Go.Field} {off : Nat} {α : Type} {d : Kd α} {Ok : α → Prop} (ho : f.offset = off) (h : Opens P f.type d Ok) : OpensF P [f] off d Ok where
 opn := by
  intro H enc w base spare held fuel cs ys hl hx hw hs
  match ys, hl with
  | [y], _ =>
   have h1 := hx 0 f rfl
   simp only [List.getElem?_cons_zero] at h1
   obtain ⟨a, ha, hok⟩ := h.opn fuel _ y h1 (fun n hn => hw n (by simpa [DataW.weightsEach] using hn))
   refine ⟨a, ?_, hok⟩
   rw [ho, h.sz, List.take_of_length_le (by rw [List.length_drop]; omega)] at ha
   exact ha

theorem opensF_cons {f : Go.Field} {fs : List Go.Field} {off : Nat} {α β : Type} {d : Kd α} {d' : Kd β} {Ok : α → Prop} {Ok' : β → Prop} (ho : f.offset = off) (h : Opens P f.type d Ok) (h' : OpensF P fs (off + d.sz) d' Ok') :
  OpensF P (f :: fs) off (Kd.pair d d') (fun x => Ok x.1 ∧ Ok' x.2) where
 opn := by
  intro H enc w base spare held fuel cs ys hl hx hw hs
  match ys, hl with
  | y :: ys, hl =>
   have h1 := hx 0 f rfl
   simp only [List.getElem?_cons_zero] at h1
   obtain ⟨a, ha, hok⟩ := h.opn fuel _ y h1 (fun n hn => hw n (by simp only [List.map_cons, DataW.weightsEach, List.mem_append]; exact .inl hn))
   have hs' : off + d.sz + d'.sz = cs.length := by
    rw [← hs]; show _ = off + (d.sz + d'.sz); omega
   obtain ⟨b, hb, hok'⟩ := h'.opn fuel cs ys (by simpa using hl) (fun i g hg => by
    have := hx (i + 1) g (by simpa using hg)
    simpa using this) (fun n hn => hw n (by simp only [List.map_cons, DataW.weightsEach, List.mem_append]; exact .inr hn)) hs'
   refine ⟨(a, b), ⟨(cs.drop off).take d.sz, cs.drop (off + d.sz), ?_, ?_, hb⟩, hok, hok'⟩
   ·rw [← List.drop_drop, List.take_append_drop]
   ·rw [ho, h.sz] at ha; exact ha

theorem opens_struct {t : TypeId} {fs : Array Go.Field} {α β : Type} {d : Kd α} {Ok : α → Prop} {g : β → α} (f : α → β) (hgf : ∀ a, g (f a) = a) (ht : P.underlying t = some (.struct fs)) (hc : P.cellsOf t = d.sz) (h : OpensF P fs.toList 0 d Ok) :
  Opens P t (Kd.iso d g) (fun b => Ok (g b)) where
 sz := hc
 opn := by
  intro H enc w base spare held fuel cs x hx hw
  obtain ⟨ys, m, rfl, rfl, hlen, hyl, hy⟩ := DataW.trod_struct ht hx
  obtain ⟨a, ha, hok⟩ := h.opn m cs ys (by simpa using hyl) (fun i f hf => hy i f (by simpa using hf)) (fun n hn => hw n (by
   simp only [DataW.weights, ht]; exact hn)) (by omega)
  exact ⟨f a, by rw [List.drop_zero] at ha; show d.K w (g (f a)) cs; rw [hgf]; exact ha, by rw [hgf]; exact hok⟩

/-! ### a value out of its cells -/
section
variable {W : World} {r : Reach} {b0 : Nat} {t : TypeId} {v u : Value}
theorem vo_int {k : IntKind} (ht : P.underlying t = some (.int k)) (h : Value.okWide P W r b0 t v) {x : Int} (hc : (Kd.int k).K W x v.cells.toList) : v = .int k x := by
 have hc : v.cells.toList = [.int k x] := hc
 simp only [Value.okWide, ht, Cell.okWide] at h
 cases v <;> simp_all [Cell.ok, Value.cells]
theorem vo_bool (ht : P.underlying t = some .bool) (h : Value.okWide P W r b0 t v) {x : Bool} (hc : Kd.bool.K W x v.cells.toList) : v = .bool x := by
 have hc : v.cells.toList = [.bool x] := hc
 simp only [Value.okWide, ht, Cell.okWide] at h
 cases v <;> simp_all [Cell.ok, Value.cells]
theorem vo_string (ht : P.underlying t = some .string) (h : Value.okWide P W r b0 t v) {x : ByteArray} (hc : Kd.string.K W x v.cells.toList) : v = .string x := by
 have hc : v.cells.toList = [.string x] := hc
 simp only [Value.okWide, ht, Cell.okWide] at h
 cases v <;> simp_all [Cell.ok, Value.cells]
theorem vo_float (ht : P.underlying t = some (.float .f64)) (h : Value.okWide P W r b0 t v) {x : Nat} (hc : Kd.f64.K W x v.cells.toList) : v = .float .f64 x := by
 have hc : v.cells.toList = [.float .f64 x] := hc
 simp only [Value.okWide, ht, Cell.okWide] at h
 cases v <;> simp_all [Cell.ok, Value.cells]
theorem vo_slice {e : TypeId} (ht : P.underlying t = some (.slice e)) (h : Value.okWide P W r b0 t v) (hc : v.cells.toList = [u]) : v = u := by
 obtain ⟨a, n, c, rfl⟩ := okWide_slice ht h
 simpa [Value.cells] using hc
theorem vo_struct {fs : Array Go.Field} (ht : P.underlying t = some (.struct fs)) (h : Value.okWide P W r b0 t v) {cs : List Value} (hc : v.cells.toList = cs) : v = .agg cs.toArray := by
 simp only [Value.okWide, ht] at h
 obtain ⟨cs', rfl, _⟩ := h
 rw [← hc]
 simp [Value.cells]
end

theorem Opens.mono {t : TypeId} {α : Type} {d : Kd α} {Ok Ok' : α → Prop} (h : Opens P t d Ok) (hk : ∀ a, Ok a → Ok' a) : Opens P t d Ok' where
 sz := h.sz
 opn := fun fuel cs x hx hw => let ⟨a, ha, ho⟩ := h.opn fuel cs x hx hw; ⟨a, ha, hk a ho⟩
end Go.Proofs.YtfmjgjfbnilpoaaW.PrintWords
