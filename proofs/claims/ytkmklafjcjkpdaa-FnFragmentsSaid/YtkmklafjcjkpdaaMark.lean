/- Marks: rows that are owned, their cells written one by one, and what they hold then. -/
import Derived.Test.YtkmklafjcjkpdaaApp
namespace Go.Proofs.Ytkmklafjcjkpdaa
open Go.RowKit
set_option linter.unusedVariables false
set_option linter.unusedSimpArgs false

def OwnE {α : Type} (K : Kind α) (w : World) (B C G : Nat) (T : TypeId) (es : List (El α)) : Prop :=
  B ≤ G ∧ G < C ∧ (∃ cs : Array Value, w.heap[G]? = some (.cells cs T (0, 0)) ∧ ∀ (j : Nat) (u : Value), (rowOf K es)[j]? = some u → cs[j]? = some u) ∧ Bod K w B C G es
section
variable {α : Type} {K : Kind α} {w w' : World} {B C G : Nat} {T : TypeId} {A : Option Addr} {l : List α} {es : List (El α)}
theorem Own.open_ (h : Own K w B C A l) (hl : l ≠ []) : ∃ G T es, A = some ⟨G, 0, none⟩ ∧ OwnE K w B C G T es ∧ es.map (·.x) = l := by
  obtain ⟨G, es, cs, T, h1, h2, h3, h4, h5, h6, h7⟩ := h.resolve_left hl
  exact ⟨G, T, es, h1, ⟨h2, h3, ⟨cs, h4, h5⟩, h6⟩, h7⟩
theorem OwnE.own (h : OwnE K w B C G T es) : Own K w B C (some ⟨G, 0, none⟩) (es.map (·.x)) := by
  obtain ⟨h1, h2, ⟨cs, h3, h4⟩, h5⟩ := h
  exact .inr ⟨G, es, cs, T, rfl, h1, h2, h3, h4, h5, rfl⟩
theorem OwnE.at_ (h : OwnE K w B C G T es) {i j : Nat} (hi : i < es.length) (hj : j < K.size) : w.cell? ⟨G, i * K.size + j, none⟩ = (es[i].cells K)[j]? ∧ (∀ p, w.frozen? ⟨G, p, none⟩ = false) ∧ G < w.heap.size := by
  obtain ⟨h1, h2, ⟨cs, h3, h4⟩, h5⟩ := h
  obtain ⟨q1, q2, q3⟩ := blk_cells h3
  refine ⟨?_, q2, q3⟩
  rw [q1]
  have hr := rowOf_get (K := K) (es := es) i j hi hj
  have hjj : j < (es[i].cells K).length := by rw [El.cells_len]; exact hj
  rw [List.getElem?_eq_getElem hjj] at hr ⊢
  exact h4 _ _ hr
theorem rowOf_set (i j : Nat) (hi : i < es.length) (e' : El α) (u : Value) (hj : j < K.size) (hc : e'.cells K = (es[i].cells K).set j u) : rowOf K (es.set i e') = (rowOf K es).set (i * K.size + j) u := by
  induction es generalizing i with
  | nil => simp at hi
  | cons e es ih =>
    have hl := e.cells_len (K := K)
    cases i with
    | zero =>
      simp only [List.getElem_cons_zero] at hc
      simp only [rowOf, List.set_cons_zero, List.map_cons, List.flatten_cons, hc, Nat.zero_mul, Nat.zero_add]
      rw [List.set_append_left _ _ (by omega)]
    | succ i =>
      simp only [List.getElem_cons_succ] at hc
      have := ih i (by simpa using hi) hc
      simp only [rowOf] at this
      simp only [rowOf, List.set_cons_succ, List.map_cons, List.flatten_cons, this]
      rw [List.set_append_right _ _ (by rw [hl, Nat.succ_mul]; omega)]
      congr 2
      rw [hl, Nat.succ_mul]
      omega
theorem rowOf_same (i : Nat) (hi : i < es.length) (e' : El α) (hc : e'.cells K = es[i].cells K) : rowOf K (es.set i e') = rowOf K es := by
  unfold rowOf
  rw [List.map_set, hc]
  congr 1
  apply List.ext_getElem?
  intro p
  rw [List.getElem?_set]
  split
  · rename_i h
    subst h
    simp [hi]
  · rfl
theorem pair_set {f : El α → List Int × Nat} (i : Nat) (hi : i < es.length) (e' : El α) (hf : f e' = f es[i]) : (es.set i e').map f = es.map f := by
  rw [List.map_set, hf]
  apply List.ext_getElem?
  intro p
  rw [List.getElem?_set]
  split
  · rename_i h
    subst h
    simp [hi]
  · rfl
/-- One cell of an element is written, not its body's. -/
theorem OwnE.setHd (h : OwnE K w B C G T es) (i : Nat) (hi : i < es.length) (j : Nat) (hj : j < K.size) (x' : α) (u : Value) (hb : K.bd x' = K.bd es[i].x) (hh : ∀ v, K.hd x' v = (K.hd es[i].x v).set j u) :
    OwnE K (w.setCell ⟨G, i * K.size + j, none⟩ u) B C G T (es.set i { es[i] with x := x' }) := by
  obtain ⟨h1, h2, ⟨cs, h3, h4⟩, h5⟩ := h
  refine ⟨h1, h2, ⟨_, blk_set h3 _ _, fun p v hp => ?_⟩, ?_, ?_⟩
  · rw [rowOf_set i j hi _ u hj (by simp only [El.cells, hb, hh])] at hp
    rw [List.getElem?_set] at hp
    rw [Array.getElem?_setIfInBounds]
    by_cases hpp : i * K.size + j = p
    · rw [if_pos hpp] at hp ⊢
      have hr := rowOf_get (K := K) (es := es) i j hi hj
      have hjj : j < (es[i].cells K).length := by rw [El.cells_len]; exact hj
      rw [List.getElem?_eq_getElem hjj] at hr
      have hcs := h4 _ _ hr
      have : i * K.size + j < cs.size := by
        rcases Nat.lt_or_ge (i * K.size + j) cs.size with h | h
        · exact h
        · rw [Array.getElem?_eq_none h] at hcs
          cases hcs
      have hlt : i * K.size + j < (rowOf K es).length := by
        rcases Nat.lt_or_ge (i * K.size + j) (rowOf K es).length with h | h
        · exact h
        · rw [List.getElem?_eq_none h] at hr
          cases hr
      rw [if_pos (by omega)] at hp
      rw [if_pos (by omega)]
      exact hp
    · rw [if_neg hpp] at hp ⊢
      exact h4 p v hp
  · intro e he
    rcases List.mem_or_eq_of_mem_set he with he | rfl
    · refine (h5.1 e he).keep fun h0 => Below.heap_setCell _ _ _ _ ?_
      obtain ⟨_, _, q⟩ := h5.1 e he
      exact (q.resolve_left h0).2.2.2.1
    · obtain ⟨q1, q2, q3⟩ := h5.1 es[i] (List.getElem_mem _)
      refine ⟨q1, by simpa only [hb] using q2, ?_⟩
      simp only [hb]
      refine q3.imp_right ?_
      rintro ⟨a, b, c, d, cs', T', e1, e2⟩
      exact ⟨a, b, c, d, cs', T', by rw [Below.heap_setCell _ _ _ _ d]; exact e1, e2⟩
  · have hp := h5.2
    have e1 := pair_set (f := fun e : El α => (K.bd e.x, e.g)) i hi { es[i] with x := x' } (by simp [hb])
    have h6 : (es.map fun e : El α => (K.bd e.x, e.g)).Pairwise fun p q => p.1 ≠ [] → q.1 ≠ [] → p.2 ≠ q.2 := by
      rw [List.pairwise_map]; exact hp
    rw [← e1, List.pairwise_map] at h6
    exact h6
/-- The body of an element is written. -/
theorem OwnE.setBd (h : OwnE K w B C G T es) (i : Nat) (hi : i < es.length) (x' : α) (hlen : (K.bd x').length = (K.bd es[i].x).length) (hh : ∀ v, K.hd x' v = K.hd es[i].x v) (hc : Chg w w' (fun b => b = es[i].g)) (h0 : (K.bd es[i].x).length = 0 → w' = w)
    (hn : (K.bd es[i].x).length ≠ 0 → ∃ (cs : Array Value) (T : TypeId), w'.heap[es[i].g]? = some (.cells cs T (0, 0)) ∧ ∀ (j : Nat) (u : Int), (K.bd x')[j]? = some u → cs[j]? = some (Value.int .u8 u)) :
    OwnE K w' B C G T (es.set i { es[i] with x := x' }) := by
  obtain ⟨h1, h2, ⟨cs, h3, h4⟩, h5⟩ := h
  have hiff : ∀ y : List Int, y = [] ↔ y.length = 0 := fun y => by simp
  have hrow : rowOf K (es.set i { es[i] with x := x' }) = rowOf K es := rowOf_same i hi _ (by simp only [El.cells, hlen, hh])
  have hmem : ∀ e ∈ es.set i { es[i] with x := x' }, e = { es[i] with x := x' } ∨ ∃ i', ∃ h : i' < es.length, i' ≠ i ∧ e = es[i'] := by
    intro e he
    obtain ⟨p, hp, rfl⟩ := List.getElem_of_mem he
    rw [List.getElem_set]
    split
    · exact .inl rfl
    · rename_i hne
      exact .inr ⟨p, by simpa using hp, fun h => hne h.symm, rfl⟩
  have hpw := List.pairwise_iff_getElem.1 h5.2
  have hoth : ∀ i' (h : i' < es.length), i' ≠ i → K.bd es[i'].x ≠ [] → w'.heap[es[i'].g]? = w.heap[es[i'].g]? := by
    intro i' hi' hne hne2
    by_cases hz : K.bd es[i].x = []
    · rw [h0 ((hiff _).1 hz)]
    · refine hc.block _ ((h5.1 es[i'] (List.getElem_mem _)).lt hne2) fun he => ?_
      rcases Nat.lt_or_gt_of_ne hne with hlt | hlt
      · exact hpw i' i hi' hi hlt hne2 hz he
      · exact hpw i i' hi hi' hlt hz hne2 he.symm
  refine ⟨h1, h2, ⟨cs, ?_, by rw [hrow]; exact h4⟩, ?_, ?_⟩
  · by_cases hz : K.bd es[i].x = []
    · rw [h0 ((hiff _).1 hz)]; exact h3
    · obtain ⟨_, _, q⟩ := h5.1 es[i] (List.getElem_mem _)
      rw [hc.block G (heap_lt h3) (fun he => (q.resolve_left hz).2.2.2.1 he.symm)]
      exact h3
  · intro e he
    rcases hmem e he with rfl | ⟨i', hi', hne, rfl⟩
    · obtain ⟨q1, q2, q3⟩ := h5.1 es[i] (List.getElem_mem _)
      refine ⟨q1, by simpa only [hlen] using q2, ?_⟩
      by_cases hz : K.bd es[i].x = []
      · exact .inl ((hiff _).2 (by simp only [hlen]; exact (hiff _).1 hz))
      · obtain ⟨a, b, c, d, _⟩ := q3.resolve_left hz
        exact .inr ⟨a, b, c, d, hn (fun h => hz ((hiff _).2 h))⟩
    · exact (h5.1 es[i'] (List.getElem_mem _)).keep (hoth i' hi' hne)
  · rw [List.pairwise_iff_getElem]
    intro p q hp hq hlt
    have hz' : ∀ y : El α, y = { es[i] with x := x' } → (K.bd y.x ≠ [] ↔ K.bd es[i].x ≠ []) ∧ y.g = es[i].g := by
      rintro y rfl
      refine ⟨?_, rfl⟩
      simp only [ne_eq, hiff, hlen]
    have hp' : p < es.length := by simpa using hp
    have hq' : q < es.length := by simpa using hq
    have H := hpw p q hp' hq' hlt
    rw [List.getElem_set, List.getElem_set]
    split
    · rename_i h
      subst h
      split
      · omega
      · intro a b
        exact H ((hz' _ rfl).1.1 a) b
    · split
      · rename_i h
        subst h
        intro a b
        exact H a ((hz' _ rfl).1.1 b)
      · exact H
end

def bytesK (k : Int) (n : Nat) : List Int := (List.range n).map fun j => (k + (j : Nat)) % 256
theorem bytesK_len (k : Int) (n : Nat) : (bytesK k n).length = n := by simp [bytesK]
theorem bytesK_get (k : Int) (n j : Nat) (h : j < n) : (bytesK k n)[j]? = some ((k + (j : Nat)) % 256) := by simp [bytesK, h]

/-- A row whose elements are marked one behind the other. -/
def markL {α : Type} (mk : Int → α → α) (ct : α → Nat) : Int → List α → List α
  | _, [] => []
  | k, x :: xs => mk k x :: markL mk ct (k + ct x) xs
def sumC {α : Type} (ct : α → Nat) (l : List α) : Nat := (l.map ct).sum
section
variable {α : Type} {mk : Int → α → α} {ct : α → Nat}
theorem sumC_take (l : List α) (i : Nat) (h : i < l.length) : sumC ct (l.take (i + 1)) = sumC ct (l.take i) + ct l[i] := by
  unfold sumC
  rw [take_snoc_get l i h, List.map_append, List.sum_append]
  simp
theorem sumC_le (l : List α) (i : Nat) : sumC ct (l.take i) ≤ sumC ct l := by
  have h : sumC ct l = sumC ct (l.take i) + sumC ct (l.drop i) := by
    unfold sumC
    rw [← List.sum_append, ← List.map_append, List.take_append_drop]
  omega
theorem markL_len (l : List α) : ∀ k, (markL mk ct k l).length = l.length := by
  induction l with
  | nil => intro k; rfl
  | cons x xs ih => intro k; simp [markL, ih]
theorem markL_get (l : List α) : ∀ (k : Int) (i : Nat) (h : i < l.length), (markL mk ct k l)[i]'(by rw [markL_len]; exact h) = mk (k + sumC ct (l.take i)) l[i] := by
  induction l with
  | nil => intro k i h; simp at h
  | cons x xs ih =>
    intro k i h
    cases i with
    | zero => simp [markL, sumC]
    | succ i =>
      simp only [markL, List.getElem_cons_succ]
      rw [ih (k + ct x) i (by simpa using h)]
      simp [sumC]
      congr 1
      omega
theorem markL_append (l l' : List α) : ∀ k, markL mk ct k (l ++ l') = markL mk ct k l ++ markL mk ct (k + sumC ct l) l' := by
  induction l with
  | nil => intro k; simp [markL, sumC]
  | cons x xs ih =>
    intro k
    simp only [List.cons_append, markL, ih]
    congr 3
    simp [sumC]
    omega
theorem markL_step (l : List α) (k : Int) (i : Nat) (h : i < l.length) : (markL mk ct k (l.take i) ++ l.drop i).set i (mk (k + sumC ct (l.take i)) l[i]) = markL mk ct k (l.take (i + 1)) ++ l.drop (i + 1) := by
  have hl : (markL mk ct k (l.take i)).length = i := by rw [markL_len]; simp; omega
  rw [List.set_append_right _ _ (by omega), hl, Nat.sub_self, List.drop_eq_getElem_cons h, List.set_cons_zero, take_snoc_get l i h, markL_append, List.append_assoc]
  rfl
theorem markL_mid (l : List α) (k : Int) (i : Nat) (h : i < l.length) : (markL mk ct k (l.take i) ++ l.drop i)[i]'(by simp [markL_len]; omega) = l[i] := by
  have hl : (markL mk ct k (l.take i)).length = i := by rw [markL_len]; simp; omega
  rw [List.getElem_append_right (by omega)]
  simp [hl]
end
end Go.Proofs.Ytkmklafjcjkpdaa
