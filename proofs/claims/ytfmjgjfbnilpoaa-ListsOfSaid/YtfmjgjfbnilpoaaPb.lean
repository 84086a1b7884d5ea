/-
 Plain: nodes that hang together by unique parents are a binary tree; its nodes in order.
-/
import Derived.Test.YtfmjgjfbnilpoaaWz
namespace Go.Proofs.Ytfmjgjfbnilpoaa.FAll
namespace BTree
inductive BT where
 | leaf (i : Nat)
 | node (i : Nat) (l r : BT)
def BT.root : BT → Nat
 | .leaf i => i
 | .node i _ _ => i
/-- Its nodes, each ahead of those below it, left ones first. -/
def BT.pre : BT → List Nat
 | .leaf i => [i]
 | .node i l r => i :: (l.pre ++ r.pre)
/-- Its leaves from left to right. -/
def BT.outer : BT → List Nat
 | .leaf i => [i]
 | .node _ l r => l.outer ++ r.outer
def BT.inner : BT → List Nat
 | .leaf _ => []
 | .node i l r => i :: (l.inner ++ r.inner)
section
variable (n : Nat) (inn : Nat → Bool) (kl kr : Nat → Nat)
/-- What a tree's nodes are to be. -/
structure Fine : Prop where
 pos : 0 < n
 kids : ∀ i, i < n → inn i = true → 1 ≤ kl i ∧ kl i < n ∧ 1 ≤ kr i ∧ kr i < n ∧ kl i ≠ kr i
 uniq : ∀ i k j, i < n → k < n → inn i = true → inn k = true → (j = kl i ∨ j = kr i) → (j = kl k ∨ j = kr k) → i = k
/-- T hangs at its root. -/
def Is : BT → Prop
 | .leaf i => i < n ∧ inn i = false
 | .node i l r => i < n ∧ inn i = true ∧ l.root = kl i ∧ r.root = kr i ∧ Is l ∧ Is r
/-- The way from the root, the other way round. -/
inductive Path : List Nat → Nat → Prop
 | root : Path [0] 0
 | kid {q : List Nat} {i : Nat} (j : Nat) : Path q i → i < n → inn i = true → (j = kl i ∨ j = kr i) → Path (j :: q) j
end
section
variable {n : Nat} {inn : Nat → Bool} {kl kr : Nat → Nat}
theorem Path.lt (fine : Fine n inn kl kr) {p : List Nat} {j : Nat} (h : Path n inn kl kr p j) : j < n := by
 cases h with
 | root => exact fine.pos
 | kid _ hq hi hin hj =>
  have := fine.kids _ hi hin
  rcases hj with rfl | rfl
  ·exact this.2.1
  ·exact this.2.2.2.1
theorem Path.uniq (fine : Fine n inn kl kr) {p : List Nat} {j : Nat} (h : Path n inn kl kr p j) : ∀ {p' : List Nat}, Path n inn kl kr p' j → p = p' := by
 induction h with
 | root =>
  intro p' h'
  cases h' with
  | root => rfl
  | kid _ hq hi hin hj =>
   have := fine.kids _ hi hin
   rcases hj with e | e <;> omega
 | kid j hq hi hin hj ih =>
  intro p' h'
  cases h' with
  | root =>
   have := fine.kids _ hi hin
   rcases hj with e | e <;> omega
  | kid _ hq' hi' hin' hj' =>
   have e := fine.uniq _ _ _ hi hi' hin hin' hj hj'
   subst e
   rw [ih hq']
theorem Path.head {p : List Nat} {j : Nat} (h : Path n inn kl kr p j) : ∃ q, p = j :: q := by
 cases h with
 | root => exact ⟨_, rfl⟩
 | kid _ _ _ _ _ => exact ⟨_, rfl⟩
/-- Each node of a way has a way. -/
theorem Path.mem {p : List Nat} {j : Nat} (h : Path n inn kl kr p j) : ∀ x ∈ p, ∃ s q, p = s ++ (x :: q) ∧ Path n inn kl kr (x :: q) x := by
 induction h with
 | root =>
  intro x hx
  obtain rfl : x = 0 := by simpa using hx
  exact ⟨[], [], rfl, .root⟩
 | kid j hq hi hin hj ih =>
  intro x hx
  rcases List.mem_cons.1 hx with rfl | hx
  ·exact ⟨[], _, rfl, .kid _ hq hi hin hj⟩
  ·obtain ⟨s, q, e, hp⟩ := ih x hx
   exact ⟨j :: s, q, by rw [e]; rfl, hp⟩
theorem Path.nodup (fine : Fine n inn kl kr) {p : List Nat} {j : Nat} (h : Path n inn kl kr p j) : p.Nodup := by
 induction h with
 | root => simp
 | kid j hq hi hin hj ih =>
  refine List.nodup_cons.2 ⟨fun hm => ?_, ih⟩
  obtain ⟨s, q, e, hp⟩ := hq.mem j hm
  have h2 := (Path.kid j hq hi hin hj).uniq fine hp
  have := congrArg List.length h2
  rw [e] at this
  simp at this
  omega
theorem mem_le (p : List Nat) (n : Nat) (hd : p.Nodup) (hl : ∀ x ∈ p, x < n) : p.length ≤ n := by
 induction n generalizing p with
 | zero =>
  cases p with
  | nil => exact Nat.le_refl _
  | cons x _ => exact absurd (hl x List.mem_cons_self) (Nat.not_lt_zero _)
 | succ n ih =>
  by_cases hm : n ∈ p
  ·have h := ih (p.erase n) (hd.erase n) (fun x hx => by
    have h1 := hl x (List.mem_of_mem_erase hx)
    have h2 : x ≠ n := fun e => by subst e; exact (List.Nodup.not_mem_erase hd) hx
    omega)
   rw [List.length_erase_of_mem hm] at h
   omega
  ·have := ih p hd (fun x hx => by
    have h1 := hl x hx
    have h2 : x ≠ n := fun e => hm (e ▸ hx)
    omega)
   omega
theorem Path.length_le (fine : Fine n inn kl kr) {p : List Nat} {j : Nat} (h : Path n inn kl kr p j) : p.length ≤ n :=
 mem_le p n (h.nodup fine) (fun x hx => by
  obtain ⟨_, _, _, hp⟩ := h.mem x hx
  exact hp.lt fine)
theorem grow (fine : Fine n inn kl kr) : ∀ (f : Nat) (p : List Nat) (j : Nat), Path n inn kl kr p j → n < p.length + f → ∃ T : BT, Is n inn kl kr T ∧ T.root = j := by
 intro f
 induction f with
 | zero => intro p j h hl; have := h.length_le fine; omega
 | succ f ih =>
  intro p j h hl
  have hj := h.lt fine
  cases hb : inn j with
  | false => exact ⟨.leaf j, ⟨hj, hb⟩, rfl⟩
  | true =>
   obtain ⟨l, hl1, hl2⟩ := ih _ _ (Path.kid (kl j) h hj hb (.inl rfl)) (by simp only [List.length_cons]; omega)
   obtain ⟨r, hr1, hr2⟩ := ih _ _ (Path.kid (kr j) h hj hb (.inr rfl)) (by simp only [List.length_cons]; omega)
   exact ⟨.node j l r, ⟨hj, hb, hl2, hr2, hl1, hr1⟩, rfl⟩
theorem exists_tree (fine : Fine n inn kl kr) : ∃ T : BT, Is n inn kl kr T ∧ T.root = 0 := grow fine n [0] 0 .root (by simp)
theorem BT.root_mem (T : BT) : T.root ∈ T.pre := by cases T <;> simp [BT.root, BT.pre]
/-- The nodes of a tree have ways through its root. -/
theorem Is.paths (T : BT) : ∀ (p : List Nat), Is n inn kl kr T → Path n inn kl kr p T.root → ∀ x ∈ T.pre, ∃ s, Path n inn kl kr (s ++ p) x := by
 induction T with
 | leaf i =>
  intro p _ hp x hx
  obtain rfl : x = i := by simpa [BT.pre] using hx
  exact ⟨[], hp⟩
 | node i l r ihl ihr =>
  intro p h hp x hx
  obtain ⟨h1, h2, h3, h4, h5, h6⟩ := h
  rcases List.mem_cons.1 hx with rfl | hx
  ·exact ⟨[], hp⟩
  ·rcases List.mem_append.1 hx with hx | hx
   ·obtain ⟨s, hs⟩ := ihl (l.root :: p) h5 (.kid _ hp h1 h2 (.inl h3)) x hx
    exact ⟨s ++ [l.root], by simpa using hs⟩
   ·obtain ⟨s, hs⟩ := ihr (r.root :: p) h6 (.kid _ hp h1 h2 (.inr h4)) x hx
    exact ⟨s ++ [r.root], by simpa using hs⟩
theorem append_tail {s s' p : List Nat} {a b : Nat} (h : s ++ (a :: p) = s' ++ (b :: p)) : a = b := by
 have hl := congrArg List.length h
 simp only [List.length_append, List.length_cons] at hl
 obtain ⟨_, h2⟩ := List.append_inj h (by omega)
 injection h2
theorem Is.nodup (fine : Fine n inn kl kr) (T : BT) : ∀ (p : List Nat), Is n inn kl kr T → Path n inn kl kr p T.root → T.pre.Nodup := by
 induction T with
 | leaf i => intro p _ _; simp [BT.pre]
 | node i l r ihl ihr =>
  intro p h hp
  obtain ⟨h1, h2, h3, h4, h5, h6⟩ := h
  have pl : Path n inn kl kr (l.root :: p) l.root := .kid _ hp h1 h2 (.inl h3)
  have pr : Path n inn kl kr (r.root :: p) r.root := .kid _ hp h1 h2 (.inr h4)
  have hk := fine.kids i h1 h2
  refine List.nodup_cons.2 ⟨fun hm => ?_, List.nodup_append.2 ⟨ihl _ h5 pl, ihr _ h6 pr, fun a ha b hb e => ?_⟩⟩
  ·obtain ⟨s, q, hs⟩ : ∃ s q : List Nat, Path n inn kl kr (s ++ (q ++ p)) i ∧ 0 < q.length := by
    rcases List.mem_append.1 hm with hm | hm
    ·obtain ⟨s, hs⟩ := Is.paths l _ h5 pl i hm
     exact ⟨s, [l.root], by simpa using hs, by simp⟩
    ·obtain ⟨s, hs⟩ := Is.paths r _ h6 pr i hm
     exact ⟨s, [r.root], by simpa using hs, by simp⟩
   have := congrArg List.length (hp.uniq fine hs.1)
   have := hs.2
   simp only [List.length_append] at *
   omega
  ·subst e
   obtain ⟨s, hs⟩ := Is.paths l _ h5 pl a ha
   obtain ⟨s', hs'⟩ := Is.paths r _ h6 pr a hb
   have := append_tail (hs.uniq fine hs')
   rw [h3, h4] at this
   exact hk.2.2.2.2 this
theorem Is.lt (T : BT) : Is n inn kl kr T → ∀ x ∈ T.pre, x < n := by
 induction T with
 | leaf i =>
  intro h x hx
  obtain rfl : x = i := by simpa [BT.pre] using hx
  exact h.1
 | node i l r ihl ihr =>
  intro h x hx
  rcases List.mem_cons.1 hx with rfl | hx
  ·exact h.1
  ·rcases List.mem_append.1 hx with hx | hx
   ·exact ihl h.2.2.2.2.1 x hx
   ·exact ihr h.2.2.2.2.2 x hx
theorem Is.size_le (fine : Fine n inn kl kr) {T : BT} (h : Is n inn kl kr T) (h0 : T.root = 0) : T.pre.length ≤ n :=
 mem_le _ _ (h.nodup fine T [0] (by rw [h0]; exact .root)) (h.lt T)
theorem Is.unique {T T' : BT} : Is n inn kl kr T → Is n inn kl kr T' → T.root = T'.root → T = T' := by
 induction T generalizing T' with
 | leaf i =>
  intro h h' e
  cases T' with
  | leaf j => obtain rfl : i = j := e; rfl
  | node j l r =>
   obtain rfl : i = j := e
   have h1 := h.2
   have h2 := h'.2.1
   rw [h1] at h2
   cases h2
 | node i l r ihl ihr =>
  intro h h' e
  cases T' with
  | leaf j =>
   obtain rfl : i = j := e
   have h1 := h.2.1
   have h2 := h'.2
   rw [h1] at h2
   cases h2
  | node j l' r' =>
   obtain rfl : i = j := e
   obtain ⟨_, _, a1, a2, a3, a4⟩ := h
   obtain ⟨_, _, b1, b2, b3, b4⟩ := h'
   rw [ihl a3 b3 (a1.trans b1.symm), ihr a4 b4 (a2.trans b2.symm)]
theorem pre_outer (T : BT) (h : Is n inn kl kr T) : T.outer = T.pre.filter (fun i => !inn i) := by
 induction T with
 | leaf i => simp [BT.outer, BT.pre, h.2]
 | node i l r ihl ihr =>
  obtain ⟨_, h2, _, _, h5, h6⟩ := h
  simp [BT.outer, BT.pre, h2, ihl h5, ihr h6]
theorem pre_inner (T : BT) (h : Is n inn kl kr T) : T.inner = T.pre.filter (fun i => inn i) := by
 induction T with
 | leaf i => simp [BT.inner, BT.pre, h.2]
 | node i l r ihl ihr =>
  obtain ⟨_, h2, _, _, h5, h6⟩ := h
  simp [BT.inner, BT.pre, h2, ihl h5, ihr h6]
/-- The stack of one that goes through a tree: the trees that are still to come, the next one last. -/
def preAll : List BT → List Nat
 | [] => []
 | T :: L => T.pre ++ preAll L
theorem preAll_node (i : Nat) (l r : BT) (L : List BT) : preAll (.node i l r :: L) = i :: preAll (l :: r :: L) := by simp [preAll, BT.pre]
theorem preAll_leaf (i : Nat) (L : List BT) : preAll (.leaf i :: L) = i :: preAll L := by simp [preAll, BT.pre]
/-- .. with how many are above. -/
def BT.preD : BT → Nat → List (Nat × Nat)
 | .leaf i, d => [(i, d)]
 | .node i l r, d => (i, d) :: (l.preD (d + 1) ++ r.preD (d + 1))
theorem BT.preD_fst (T : BT) : ∀ d, (T.preD d).map Prod.fst = T.pre := by
 induction T with
 | leaf i => intro d; rfl
 | node i l r ihl ihr => intro d; simp [BT.preD, BT.pre, ihl, ihr]
def preAllD : List (BT × Nat) → List (Nat × Nat)
 | [] => []
 | p :: L => p.1.preD p.2 ++ preAllD L
theorem preAllD_node (i d : Nat) (l r : BT) (L : List (BT × Nat)) : preAllD ((.node i l r, d) :: L) = (i, d) :: preAllD ((l, d + 1) :: (r, d + 1) :: L) := by simp [preAllD, BT.preD]
theorem preAllD_leaf (i d : Nat) (L : List (BT × Nat)) : preAllD ((.leaf i, d) :: L) = (i, d) :: preAllD L := by simp [preAllD, BT.preD]
theorem Is.closed {T : BT} (h : Is n inn kl kr T) : ∀ i ∈ T.pre, inn i = true → kl i ∈ T.pre ∧ kr i ∈ T.pre := by
 induction T with
 | leaf i =>
  intro j hj hin
  obtain rfl : j = i := by simpa [BT.pre] using hj
  rw [h.2] at hin
  cases hin
 | node i l r ihl ihr =>
  obtain ⟨_, h2, h3, h4, h5, h6⟩ := h
  intro j hj hin
  rcases List.mem_cons.1 hj with rfl | hj
  ·rw [← h3, ← h4]
   exact ⟨List.mem_cons_of_mem _ (List.mem_append.2 (.inl l.root_mem)), List.mem_cons_of_mem _ (List.mem_append.2 (.inr r.root_mem))⟩
  ·rcases List.mem_append.1 hj with hj | hj
   ·obtain ⟨a, b⟩ := ihl h5 j hj hin
    exact ⟨List.mem_cons_of_mem _ (List.mem_append.2 (.inl a)), List.mem_cons_of_mem _ (List.mem_append.2 (.inl b))⟩
   ·obtain ⟨a, b⟩ := ihr h6 j hj hin
    exact ⟨List.mem_cons_of_mem _ (List.mem_append.2 (.inr a)), List.mem_cons_of_mem _ (List.mem_append.2 (.inr b))⟩
end
end BTree
end Go.Proofs.Ytfmjgjfbnilpoaa.FAll
