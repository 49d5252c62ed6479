/- Rows of elements that may each hold a body of bytes: reading them, owning them. -/
import Derived.Test.YtkmklafjcjkpdaaMsg
namespace Go.Proofs.Ytkmklafjcjkpdaa
open Go.RowKit
set_option linter.unusedVariables false
set_option linter.unusedSimpArgs false

/-- A kind of element: its cells, given its body's slice. -/
structure Kind (α : Type) where
  size : Nat
  hd : α → Value → List Value
  bd : α → List Int
  hlen : ∀ x v, (hd x v).length = size

def kE {α : Type} (K : Kind α) (w : World) (x : α) (cs : List Value) : Prop := ∃ A c, cs = K.hd x (.slice A (K.bd x).length c) ∧ RB w A c (K.bd x)
theorem kE.ext {α : Type} {K : Kind α} {w w' : World} (hE : Ext w w') (x : α) (cs : List Value) (h : kE K w x cs) : kE K w' x cs := by
  obtain ⟨A, c, h1, h2⟩ := h
  exact ⟨A, c, h1, h2.ext hE⟩

/-- An element of an owned row: the element, its body's block, its body's slice. -/
structure El (α : Type) where
  x : α
  g : Nat
  A : Option Addr
  c : Nat
def El.ok {α : Type} (K : Kind α) (w : World) (B C G : Nat) (e : El α) : Prop :=
  (e.A = none → e.c = 0) ∧ (K.bd e.x).length ≤ e.c ∧ (K.bd e.x = [] ∨ e.A = some ⟨e.g, 0, none⟩ ∧ B ≤ e.g ∧ e.g < C ∧ e.g ≠ G ∧ ∃ (cs : Array Value) (T : TypeId), w.heap[e.g]? = some (.cells cs T (0, 0)) ∧ ∀ (j : Nat) (u : Int), (K.bd e.x)[j]? = some u → cs[j]? = some (Value.int .u8 u))
def El.cells {α : Type} (K : Kind α) (e : El α) : List Value := K.hd e.x (.slice e.A (K.bd e.x).length e.c)
def Bod {α : Type} (K : Kind α) (w : World) (B C G : Nat) (es : List (El α)) : Prop :=
  (∀ e ∈ es, e.ok K w B C G) ∧ es.Pairwise fun e e' => K.bd e.x ≠ [] → K.bd e'.x ≠ [] → e.g ≠ e'.g
def rowOf {α : Type} (K : Kind α) (es : List (El α)) : List Value := (es.map (El.cells K)).flatten
/-- A row that is owned: its blocks lie in [B, C), and all of them differ. -/
def Own {α : Type} (K : Kind α) (w : World) (B C : Nat) (A : Option Addr) (l : List α) : Prop :=
  l = [] ∨ ∃ (G : Nat) (es : List (El α)) (cs : Array Value) (T : TypeId), A = some ⟨G, 0, none⟩ ∧ B ≤ G ∧ G < C ∧ w.heap[G]? = some (.cells cs T (0, 0)) ∧ (∀ (j : Nat) (u : Value), (rowOf K es)[j]? = some u → cs[j]? = some u) ∧ Bod K w B C G es ∧ es.map (·.x) = l

section
variable {α : Type} {K : Kind α} {w w' : World} {B C G : Nat} {A : Option Addr} {l : List α} {es : List (El α)}
theorem flat_get (s : Nat) : ∀ (ps : List (List Value)) (i j : Nat) (hi : i < ps.length), (∀ p ∈ ps, p.length = s) → j < s → ps.flatten[i * s + j]? = (ps[i])[j]?
  | [], i, j, hi, _, _ => by simp at hi
  | p :: ps, 0, j, _, h, hj => by
    have := h p (by simp)
    rw [List.flatten_cons, List.getElem?_append_left (by omega)]
    simp
  | p :: ps, i + 1, j, hi, h, hj => by
    have hp := h p (by simp)
    have := flat_get s ps i j (by simpa using hi) (fun q hq => h q (by simp [hq])) hj
    rw [List.flatten_cons, List.getElem?_append_right (by rw [hp, Nat.succ_mul]; omega), hp]
    have e : (i + 1) * s + j - s = i * s + j := by rw [Nat.succ_mul]; omega
    rw [e, this]
    simp
theorem El.cells_len (e : El α) : (e.cells K).length = K.size := K.hlen _ _
theorem rowOf_len : (rowOf K es).length = es.length * K.size := by
  unfold rowOf
  induction es with
  | nil => simp
  | cons e es ih => simp only [List.map_cons, List.flatten_cons, List.length_append, ih, El.cells_len, List.length_cons, Nat.succ_mul]; omega
theorem rowOf_get (i j : Nat) (hi : i < es.length) (hj : j < K.size) : (rowOf K es)[i * K.size + j]? = (es[i].cells K)[j]? := by
  unfold rowOf
  rw [flat_get K.size _ i j (by simpa using hi) (by simp only [List.mem_map]; rintro p ⟨e, _, rfl⟩; exact e.cells_len) hj]
  simp
theorem rowOf_append (es es' : List (El α)) : rowOf K (es ++ es') = rowOf K es ++ rowOf K es' := by simp [rowOf]
theorem rowOf_take (k : Nat) : rowOf K (es.take k) = (rowOf K es).take (k * K.size) := by
  induction es generalizing k with
  | nil => simp [rowOf]
  | cons e es ih =>
    cases k with
    | zero => simp [rowOf]
    | succ k =>
      have hc := e.cells_len (K := K)
      have := ih k
      simp only [rowOf, List.take_succ_cons, List.map_cons, List.flatten_cons] at this ⊢
      rw [this, List.take_append, hc, List.take_of_length_le (l := e.cells K) (by rw [hc, Nat.succ_mul]; omega)]
      congr 2
      rw [Nat.succ_mul]; omega
theorem rowOf_drop (k : Nat) : rowOf K (es.drop k) = (rowOf K es).drop (k * K.size) := by
  induction es generalizing k with
  | nil => simp [rowOf]
  | cons e es ih =>
    cases k with
    | zero => simp [rowOf]
    | succ k =>
      have hc := e.cells_len (K := K)
      have := ih k
      simp only [rowOf, List.drop_succ_cons, List.map_cons, List.flatten_cons] at this ⊢
      rw [this, List.drop_append, hc, List.drop_of_length_le (l := e.cells K) (by rw [hc, Nat.succ_mul]; omega)]
      simp only [List.nil_append]
      congr 1
      rw [Nat.succ_mul]; omega
theorem El.ok.keep {e : El α} (h : e.ok K w B C G) (hk : K.bd e.x ≠ [] → w'.heap[e.g]? = w.heap[e.g]?) : e.ok K w' B C G := by
  obtain ⟨h1, h2, h3⟩ := h
  refine ⟨h1, h2, ?_⟩
  by_cases h0 : K.bd e.x = []
  · exact .inl h0
  · obtain ⟨a, b, c, d, f⟩ := h3.resolve_left h0
    exact .inr ⟨a, b, c, d, by rw [hk h0]; exact f⟩
theorem El.ok.ext {e : El α} (h : e.ok K w B C G) (hE : Ext w w') : e.ok K w' B C G := by
  refine h.keep fun h0 => ?_
  obtain ⟨_, _, h3⟩ := h
  obtain ⟨a, b, c, d, cs, T, f, _⟩ := h3.resolve_left h0
  rw [ext_blk hE f, f]
theorem El.ok.mono {e : El α} {B' C' : Nat} (h : e.ok K w B C G) (hB : B' ≤ B) (hC : C ≤ C') : e.ok K w B' C' G := by
  obtain ⟨h1, h2, h3⟩ := h
  refine ⟨h1, h2, h3.imp_right ?_⟩
  rintro ⟨a, b, c, d, f⟩
  exact ⟨a, by omega, by omega, d, f⟩
theorem El.ok.rb {e : El α} (h : e.ok K w B C G) : RB w e.A e.c (K.bd e.x) := by
  obtain ⟨h1, h2, h3⟩ := h
  refine ⟨?_, h1, h2⟩
  rcases h3 with h3 | ⟨a, b, c, d, cs, T, f, g⟩
  · rw [h3]; exact .inl rfl
  · obtain ⟨q1, _, q3⟩ := blk_cells f
    refine .inr ⟨e.g, 0, a, q3, fun j u hu => ?_⟩
    rw [Nat.zero_add, q1]
    rcases hb : (K.bd e.x)[j]? with _ | z
    · simp [hb] at hu
    · simp [hb] at hu
      subst hu
      exact g j z hb
theorem Bod.ext (h : Bod K w B C G es) (hE : Ext w w') : Bod K w' B C G es := ⟨fun e he => (h.1 e he).ext hE, h.2⟩
theorem Bod.mono {B' C' : Nat} (h : Bod K w B C G es) (hB : B' ≤ B) (hC : C ≤ C') : Bod K w B' C' G es := ⟨fun e he => (h.1 e he).mono hB hC, h.2⟩
theorem Bod.nil : Bod K w B C G [] := ⟨fun e he => by simp at he, .nil⟩
theorem Bod.sub {es' : List (El α)} (h : Bod K w B C G es) (hs : es'.Sublist es) : Bod K w B C G es' := ⟨fun e he => h.1 e (hs.subset he), h.2.sublist hs⟩
/-- One more element, its body's block new. -/
theorem Bod.snoc {e : El α} (h : Bod K w B C G es) (he : e.ok K w B C G) (hn : ∀ e' ∈ es, K.bd e'.x ≠ [] → e'.g ≠ e.g) : Bod K w B C G (es ++ [e]) := by
  refine ⟨fun e' he' => ?_, ?_⟩
  · rw [List.mem_append] at he'
    rcases he' with h1 | h1
    · exact h.1 e' h1
    · simp at h1; subst h1; exact he
  · rw [List.pairwise_append]
    refine ⟨h.2, by simp, fun a ha b hb h1 _ => ?_⟩
    simp at hb
    subst hb
    exact hn a ha h1
theorem El.ok.lt {e : El α} (h : e.ok K w B C G) (h0 : K.bd e.x ≠ []) : e.g < w.heap.size := by
  obtain ⟨_, _, h3⟩ := h
  obtain ⟨a, b, c, d, cs, T, f, _⟩ := h3.resolve_left h0
  exact (blk_cells f).2.2
theorem Bod.lt (h : Bod K w B C G es) {e : El α} (he : e ∈ es) (h0 : K.bd e.x ≠ []) : e.g < w.heap.size := (h.1 e he).lt h0
theorem Own.ext (h : Own K w B C A l) (hE : Ext w w') : Own K w' B C A l := by
  rcases h with h | ⟨G, es, cs, T, h1, h2, h3, h4, h5, h6, h7⟩
  · exact .inl h
  · exact .inr ⟨G, es, cs, T, h1, h2, h3, ext_blk hE h4, h5, h6.ext hE, h7⟩
theorem Own.mono {B' C' : Nat} (h : Own K w B C A l) (hB : B' ≤ B) (hC : C ≤ C') : Own K w B' C' A l := by
  rcases h with h | ⟨G, es, cs, T, h1, h2, h3, h4, h5, h6, h7⟩
  · exact .inl h
  · exact .inr ⟨G, es, cs, T, h1, by omega, by omega, h4, h5, h6.mono hB hC, h7⟩
theorem Own.els (h : Own K w B C A l) : Els w A K.size (kE K) l := by
  rcases h with h | ⟨G, es, cs, T, h1, h2, h3, h4, h5, h6, rfl⟩
  · exact .inl h
  · obtain ⟨q1, _, q3⟩ := blk_cells h4
    refine .inr ⟨G, 0, h1, q3, fun i hi => ⟨es[i]'(by simpa using hi) |>.cells K, ?_, fun j u hu => ?_⟩⟩
    · have hi' : i < es.length := by simpa using hi
      rw [List.getElem_map]
      exact ⟨_, _, rfl, (h6.1 es[i] (List.getElem_mem _)).rb⟩
    · have hi' : i < es.length := by simpa using hi
      have hj : j < K.size := by
        rcases Nat.lt_or_ge j K.size with h | h
        · exact h
        · rw [List.getElem?_eq_none (by rw [El.cells_len]; exact h)] at hu
          cases hu
      rw [Nat.zero_add, q1]
      exact h5 _ _ (by rw [rowOf_get i j hi' hj]; exact hu)
/-- A whole array that agrees with a row. -/
theorem own_of_blk {cs : Array Value} {T : TypeId} (hG : B ≤ G ∧ G < C) (h : w.heap[G]? = some (.cells cs T (0, 0))) (hr : ∀ (j : Nat) (u : Value), (rowOf K es)[j]? = some u → cs[j]? = some u) (hb : Bod K w B C G es) : Own K w B C (some ⟨G, 0, none⟩) (es.map (·.x)) :=
  .inr ⟨G, es, cs, T, rfl, hG.1, hG.2, h, hr, hb, rfl⟩
end

/-- Several cells written one behind the other. -/
def setL (cs : Array Value) (o : Nat) : List Value → Array Value
  | [] => cs
  | e :: es => setL (cs.setIfInBounds o e) (o + 1) es
theorem setL_size (es : List Value) : ∀ (cs : Array Value) (o : Nat), (setL cs o es).size = cs.size := by
  induction es with
  | nil => intro cs o; rfl
  | cons e es ih => intro cs o; simp [setL, ih]
theorem setL_get (es : List Value) : ∀ (cs : Array Value) (o p : Nat), o + es.length ≤ cs.size → (setL cs o es)[p]? = if o ≤ p ∧ p < o + es.length then es[p - o]? else cs[p]? := by
  induction es with
  | nil => intro cs o p _; simp [setL]; intro h1 h2; omega
  | cons e es ih =>
    intro cs o p hsz
    simp only [List.length_cons] at hsz
    unfold setL
    rw [ih _ _ _ (by simp; omega)]
    by_cases h1 : o + 1 ≤ p ∧ p < o + 1 + es.length
    · rw [if_pos h1, if_pos (by simp; omega)]
      have : p - o = (p - (o + 1)) + 1 := by omega
      rw [this, List.getElem?_cons_succ]
    · rw [if_neg h1]
      by_cases h2 : p = o
      · subst h2
        rw [if_pos (by simp)]
        simp [Array.getElem?_setIfInBounds]
        omega
      · rw [if_neg (by simp; omega), Array.getElem?_setIfInBounds_ne (by omega)]
def setW (w : World) (G o : Nat) : List Value → World
  | [] => w
  | e :: es => setW (w.setCell ⟨G, o, none⟩ e) G (o + 1) es
theorem setW_blk {G : Nat} {T : TypeId} {f : Nat × Nat} (es : List Value) : ∀ (w : World) (cs : Array Value) (o : Nat), w.heap[G]? = some (.cells cs T f) → (setW w G o es).heap[G]? = some (.cells (setL cs o es) T f) := by
  induction es with
  | nil => intro w cs o h; exact h
  | cons e es ih => intro w cs o h; exact ih _ _ _ (blk_set h _ _)
theorem setW_ne {G g : Nat} (hne : g ≠ G) (es : List Value) : ∀ (w : World) (o : Nat), (setW w G o es).heap[g]? = w.heap[g]? := by
  induction es with
  | nil => intro w o; rfl
  | cons e es ih => intro w o; unfold setW; rw [ih, Below.heap_setCell _ _ _ _ hne]
theorem setW_size {G : Nat} (es : List Value) : ∀ (w : World) (o : Nat), (setW w G o es).heap.size = w.heap.size := by
  induction es with
  | nil => intro w o; rfl
  | cons e es ih => intro w o; unfold setW; rw [ih]; simp
theorem setW_ext {G : Nat} {a : World} (hG : a.heap.size ≤ G) (es : List Value) : ∀ (w : World) (o : Nat), Ext a w → Ext a (setW w G o es) := by
  induction es with
  | nil => intro w o h; exact h
  | cons e es ih => intro w o h; exact ih _ _ (h.setCell_ hG e)

/-- A row while it is filled: the first elements are in, the block has room for N. -/
def Fil {α : Type} (K : Kind α) (w : World) (B G N : Nat) (l : List α) (k : Nat) : Prop :=
  ∃ (es : List (El α)) (cs : Array Value) (T : TypeId), B ≤ G ∧ w.heap[G]? = some (.cells cs T (0, 0)) ∧ cs.size = N * K.size ∧ (∀ (j : Nat) (u : Value), (rowOf K es)[j]? = some u → cs[j]? = some u) ∧ Bod K w B w.heap.size G es ∧ es.map (·.x) = l.take k
section
variable {α : Type} {K : Kind α} {w w' : World} {B G N : Nat} {l : List α} {k : Nat}
theorem Fil.zero {cs : Array Value} {T : TypeId} (hB : B ≤ G) (h : w.heap[G]? = some (.cells cs T (0, 0))) (hs : cs.size = N * K.size) : Fil K w B G N l 0 :=
  ⟨[], cs, T, hB, h, hs, fun j u hu => by simp [rowOf] at hu, .nil, by simp⟩
theorem Fil.ext (h : Fil K w B G N l k) (hE : Ext w w') : Fil K w' B G N l k := by
  obtain ⟨es, cs, T, h1, h2, h3, h4, h5, h6⟩ := h
  exact ⟨es, cs, T, h1, ext_blk hE h2, h3, h4, (h5.ext hE).mono (Nat.le_refl _) hE.size, h6⟩
/-- The facts that a store of element k needs. -/
theorem Fil.at_ (h : Fil K w B G N l k) (hk : k < N) : (∀ j, j < K.size → ∃ u, w.cell? ⟨G, k * K.size + j, none⟩ = some u) ∧ (∀ i, w.frozen? ⟨G, i, none⟩ = false) ∧ G < w.heap.size := by
  obtain ⟨es, cs, T, h1, h2, h3, h4, h5, h6⟩ := h
  obtain ⟨q1, q2, q3⟩ := blk_cells h2
  refine ⟨fun j hj => ?_, q2, q3⟩
  have : k * K.size + j < cs.size := by
    rw [h3]
    have : (k + 1) * K.size ≤ N * K.size := Nat.mul_le_mul_right _ hk
    rw [Nat.succ_mul] at this
    omega
  exact ⟨cs[k * K.size + j], by rw [q1, Array.getElem?_eq_getElem this]⟩
/-- Element k is stored: its body a block that was new when the filling of k began (in world w0). -/
theorem Fil.step {w0 : World} {g : Nat} {A : Option Addr} {c : Nat} (h : Fil K w0 B G N l k) (hE : Ext w0 w) (hk : k < l.length) (hN : l.length ≤ N) (hg : w0.heap.size ≤ g)
    (hok : (⟨l[k], g, A, c⟩ : El α).ok K w B w.heap.size G) : Fil K (setW w G (k * K.size) (K.hd l[k] (.slice A (K.bd l[k]).length c))) B G N l (k + 1) := by
  have h' := h.ext hE
  obtain ⟨es0, cs0, T0, g1, g2, g3, g4, g5, g6⟩ := h
  have hlen : (K.hd l[k] (.slice A (K.bd l[k]).length c)).length = K.size := K.hlen _ _
  have hesl : es0.length = k := by
    have := congrArg List.length g6
    simp at this
    omega
  have hroom : k * K.size + K.size ≤ cs0.size := by
    rw [g3]
    have : (k + 1) * K.size ≤ N * K.size := Nat.mul_le_mul_right _ (by omega)
    rw [Nat.succ_mul] at this
    omega
  refine ⟨es0 ++ [⟨l[k], g, A, c⟩], setL cs0 (k * K.size) (K.hd l[k] (.slice A (K.bd l[k]).length c)), T0, g1, setW_blk _ _ _ _ (ext_blk hE g2), by rw [setL_size, g3], ?_, ?_, ?_⟩
  · intro j u hu
    rw [setL_get _ _ _ _ (by rw [hlen]; exact hroom), hlen]
    rw [rowOf_append] at hu
    have hrl : (rowOf K es0).length = k * K.size := by rw [rowOf_len, hesl]
    by_cases hj : j < k * K.size
    · rw [if_neg (by omega)]
      rw [List.getElem?_append_left (by omega)] at hu
      exact g4 j u hu
    · rw [List.getElem?_append_right (by omega), hrl] at hu
      have hc : rowOf K [(⟨l[k], g, A, c⟩ : El α)] = K.hd l[k] (.slice A (K.bd l[k]).length c) := by simp [rowOf, El.cells]
      rw [hc] at hu
      have : j - k * K.size < K.size := by
        rcases Nat.lt_or_ge (j - k * K.size) K.size with h | h
        · exact h
        · rw [List.getElem?_eq_none (by omega)] at hu
          cases hu
      rw [if_pos (by omega)]
      exact hu
  · have hsz := setW_size (G := G) (K.hd l[k] (.slice A (K.bd l[k]).length c)) w (k * K.size)
    rw [hsz]
    have hb : Bod K w B w.heap.size G es0 := (g5.ext hE).mono (Nat.le_refl _) hE.size
    have hall : Bod K w B w.heap.size G (es0 ++ [⟨l[k], g, A, c⟩]) := hb.snoc hok fun e' he' h0 => by
      have := g5.lt he' h0
      simp only
      omega
    refine ⟨fun e he => (hall.1 e he).keep fun h0 => setW_ne ?_ _ _ _, hall.2⟩
    obtain ⟨_, _, h3⟩ := hall.1 e he
    exact (h3.resolve_left h0).2.2.2.1
  · rw [List.map_append, g6, take_snoc_get l k hk]
    rfl
theorem Fil.done (h : Fil K w B G N l l.length) : Own K w B w.heap.size (some ⟨G, 0, none⟩) l := by
  obtain ⟨es, cs, T, h1, h2, h3, h4, h5, h6⟩ := h
  rw [List.take_length] at h6
  exact .inr ⟨G, es, cs, T, rfl, h1, (blk_cells h2).2.2, h2, h4, h5, h6⟩
end
/-- make([]T, n): a new block. -/
theorem make_els {P : Program} {t e : TypeId} {size bytes : Nat} (hT : ElemTy P t e size bytes) (n : Nat) (hn : bytes * n ≤ 281474976710656) (h63 : n ≤ 9223372036854775807) :
    ∃ cs : Array Value, cs.size = n * size ∧ ∀ W : World, (Instr.makeSlice t (.int .i64 (n : Int)) (.int .i64 (n : Int))).run P W = .ok (.slice (some ⟨W.heap.size, 0, none⟩) n n) (W.alloc (.cells cs e)) := by
  obtain ⟨i, z, hi, hz, hs, hb, _⟩ := hT.info
  have hbn : (i.bytes : Int) * (n : Int) ≤ 281474976710656 := by
    rw [hb]
    have h0 : ((bytes * n : Nat) : Int) ≤ 281474976710656 := by omega
    rwa [Int.natCast_mul] at h0
  refine ⟨madeCells z.cells (n * size), size_madeCells _ _, fun W => ?_⟩
  have h := run_make (P := P) W t e i _ hT.und hi hz .i64 .i64 (n : Int) (n : Int) (by omega) (by omega) hbn (by omega)
  rw [h, hs, Int.toNat_natCast]
end Go.Proofs.Ytkmklafjcjkpdaa
