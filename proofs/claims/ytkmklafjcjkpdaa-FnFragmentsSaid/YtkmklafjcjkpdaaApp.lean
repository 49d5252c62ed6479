/- Rows built by append, their elements' bodies in blocks of their own; worlds changed in some blocks only. -/
import Derived.Test.YtkmklafjcjkpdaaEls2
import Derived.Test.YtkmklafjcjkpdaaQue
namespace Go.Proofs.Ytkmklafjcjkpdaa
open Go.RowKit
set_option linter.unusedVariables false
set_option linter.unusedSimpArgs false

/-- A world changed in the blocks of S only, else grown. -/
structure Chg (w w' : World) (S : Nat → Prop) : Prop where
  os : w'.os = w.os
  tape : w'.tape = w.tape
  output : w'.output = w.output
  size : w.heap.size ≤ w'.heap.size
  block : ∀ b, b < w.heap.size → ¬ S b → w'.heap[b]? = w.heap[b]?
theorem Chg.refl (w : World) (S : Nat → Prop) : Chg w w S := ⟨rfl, rfl, rfl, Nat.le_refl _, fun _ _ _ => rfl⟩
theorem Chg.trans {a b c : World} {S : Nat → Prop} (h : Chg a b S) (k : Chg b c S) : Chg a c S :=
  ⟨k.os.trans h.os, k.tape.trans h.tape, k.output.trans h.output, Nat.le_trans h.size k.size, fun x hl hx => (k.block x (Nat.lt_of_lt_of_le hl h.size) hx).trans (h.block x hl hx)⟩
theorem Chg.mono {a b : World} {S T : Nat → Prop} (h : Chg a b S) (hs : ∀ x, S x → T x) : Chg a b T :=
  ⟨h.os, h.tape, h.output, h.size, fun x hl hx => h.block x hl fun hS => hx (hs x hS)⟩
theorem Chg.of_ext {a b : World} (S : Nat → Prop) (h : Ext a b) : Chg a b S := ⟨h.os, h.tape, h.output, h.size, fun x hl _ => h.block x hl⟩
theorem Chg.set {a b : World} {S : Nat → Prop} (h : Chg a b S) {p : Addr} (hp : S p.block) (u : Value) : Chg a (b.setCell p u) S :=
  ⟨h.os, h.tape, h.output, by simpa using h.size, fun x hl hx => by
    rw [Below.heap_setCell _ _ _ _ (by intro e; subst e; exact hx hp)]
    exact h.block x hl hx⟩
theorem Chg.ext {a w w' : World} {S : Nat → Prop} (h : Chg w w' S) (hE : Ext a w) (hS : ∀ x, S x → a.heap.size ≤ x) : Ext a w' :=
  ⟨h.os.trans hE.os, h.tape.trans hE.tape, h.output.trans hE.output, Nat.le_trans hE.size h.size, fun x hx => by
    rw [h.block x (Nat.lt_of_lt_of_le hx hE.size) fun hs => by have := hS x hs; omega]
    exact hE.block x hx⟩
theorem heap_lt {w : World} {g : Nat} {o : Obj} (h : w.heap[g]? = some o) : g < w.heap.size := (Array.getElem?_eq_some_iff.1 h).1
theorem El.ok.chg {α : Type} {K : Kind α} {w w' : World} {B C G : Nat} {e : El α} {S : Nat → Prop} (h : e.ok K w B C G) (hc : Chg w w' S) (hS : K.bd e.x ≠ [] → ¬ S e.g) : e.ok K w' B C G :=
  h.keep fun h0 => hc.block _ (h.lt h0) (hS h0)
theorem Own.chg {α : Type} {K : Kind α} {w w' : World} {B C : Nat} {A : Option Addr} {l : List α} {S : Nat → Prop} (h : Own K w B C A l) (hc : Chg w w' S) (hS : ∀ x, B ≤ x → x < C → ¬ S x) : Own K w' B C A l := by
  rcases h with h | ⟨G, es, cs, T, h1, h2, h3, h4, h5, h6, h7⟩
  · exact .inl h
  · refine .inr ⟨G, es, cs, T, h1, h2, h3, by rw [hc.block G (heap_lt h4) (hS G h2 h3), h4], h5, ⟨fun e he => (h6.1 e he).chg hc fun h0 => ?_, h6.2⟩, h7⟩
    obtain ⟨_, _, q⟩ := h6.1 e he
    obtain ⟨_, q2, q3, _⟩ := q.resolve_left h0
    exact hS _ q2 q3

/-- A row built by append: its value, its elements; the blocks of X are not its own. -/
def AppR {α : Type} (K : Kind α) (T : TypeId) (w : World) (B : Nat) (X : Nat → Prop) (v : Value) (l : List α) : Prop :=
  ∃ es : List (El α), w.ownsRow B T K.size v es.length (rowOf K es) ∧ (∀ G, v.ownBlock = some G → ¬ X G ∧ Bod K w B w.heap.size G es) ∧ (∀ e ∈ es, K.bd e.x ≠ [] → ¬ X e.g) ∧ es.map (·.x) = l
section
variable {α : Type} {K : Kind α} {T : TypeId} {w w' : World} {B : Nat} {X : Nat → Prop} {v : Value} {l : List α}
theorem AppR.nil : AppR K T w B X (.slice none 0 0) [] := ⟨[], by simpa [rowOf] using World.ownsRow_nil w B T K.size, fun G h => by simp [Value.ownBlock] at h, fun e he => by simp at he, rfl⟩
theorem AppR.lit0 (hB : B ≤ w.heap.size) (hX : ¬ X w.heap.size) : AppR K T (w.alloc (.cells #[] T)) B X (.slice (some ⟨w.heap.size, 0, none⟩) 0 0) [] :=
  ⟨[], by simpa [rowOf] using World.ownsRow_lit (size := K.size) (e := T) w #[] 0 hB (by unfold maxLen; omega) (by simp), fun G h => ⟨by simp [Value.ownBlock] at h; rw [← h]; exact hX, .nil⟩, fun e he => by simp at he, rfl⟩
theorem AppR.made {cs : Array Value} {cap : Nat} (hB : B ≤ w.heap.size) (hX : ¬ X w.heap.size) (hm : cap ≤ maxLen) (hs : cs.size = cap * K.size) : AppR K T (w.alloc (.cells cs T)) B X (.slice (some ⟨w.heap.size, 0, none⟩) 0 cap) [] :=
  ⟨[], by simpa [rowOf] using World.ownsRow_made (size := K.size) (e := T) w cs cap hB hm hs, fun G h => ⟨by simp [Value.ownBlock] at h; rw [← h]; exact hX, .nil⟩, fun e he => by simp at he, rfl⟩
theorem AppR.ext (h : AppR K T w B X v l) (hE : Ext w w') : AppR K T w' B X v l := by
  obtain ⟨es, h1, h2, hx, h3⟩ := h
  exact ⟨es, Ext.own hE h1, fun G hG => ⟨(h2 G hG).1, ((h2 G hG).2.ext hE).mono (Nat.le_refl _) hE.size⟩, hx, h3⟩
/-- A block of X is written. -/
theorem AppR.set_ (h : AppR K T w B X v l) {p : Addr} (hp : X p.block) (u : Value) : AppR K T (w.setCell p u) B X v l := by
  obtain ⟨es, h1, h2, hx, h3⟩ := h
  refine ⟨es, ⟨h1.1, h1.2.imp_right ?_⟩, fun G hG => ⟨(h2 G hG).1, ⟨fun e he => ?_, (h2 G hG).2.2⟩⟩, hx, h3⟩
  · rintro ⟨g, cap, cur, rfl, a, b, c⟩
    refine ⟨g, cap, cur, rfl, a, ?_, c⟩
    rw [Below.heap_setCell _ _ _ _ (fun e => (h2 g rfl).1 (by rw [e]; exact hp))]
    exact b
  · have h4 := ((h2 G hG).2.1 e he).keep (w' := w.setCell p u) fun h0 => Below.heap_setCell _ _ _ _ (fun e' => hx e he h0 (by rw [e']; exact hp))
    exact h4.mono (Nat.le_refl _) (by simp)
/-- What it is for those who read it or write into it. -/
theorem AppR.own (h : AppR K T w B X v l) : ∃ A c, v = .slice A l.length c ∧ l.length ≤ c ∧ c ≤ maxLen ∧ Own K w B w.heap.size A l ∧ (A = none → c = 0) := by
  obtain ⟨es, h1, h2, hx, rfl⟩ := h
  obtain ⟨hl, h1⟩ := h1
  rcases h1 with ⟨rfl, h0⟩ | ⟨g, cap, cur, rfl, hB, hg, hc, hm, hs, ht⟩
  · have : es = [] := List.eq_nil_of_length_eq_zero h0
    subst this
    exact ⟨none, 0, rfl, Nat.le_refl _, Nat.zero_le _, .inl rfl, fun _ => rfl⟩
  · refine ⟨some ⟨g, 0, none⟩, cap, by simp, by simpa using hc, hm, ?_, fun h => by cases h⟩
    refine .inr ⟨g, es, cur, T, rfl, hB, (blk_cells hg).2.2, hg, fun j u hu => ?_, (h2 g rfl).2, rfl⟩
    rw [← ht] at hu
    have hj : j < es.length * K.size := by
      rcases Nat.lt_or_ge j (es.length * K.size) with h | h
      · exact h
      · rw [List.getElem?_eq_none (by simp; omega)] at hu
        cases hu
    rw [List.getElem?_take_of_lt hj] at hu
    simpa using hu
theorem AppR.len (h : AppR K T w B X v l) : l.length ≤ maxLen := by obtain ⟨A, c, _, h1, h2, _⟩ := h.own; omega
end
/-- A box at the world's end: what lies in it, and that the rest is kept. -/
theorem Ext.snoc {a w : World} {o : Obj} (h : Ext a w) (hb : w.heap[a.heap.size]? = some o) : Ext (a.alloc o) w :=
  ⟨h.os, h.tape, h.output, by simp; exact heap_lt hb, fun b hlt => by
    simp at hlt
    by_cases he : b = a.heap.size
    · subst he; rw [hb, heap_alloc_new]
    · rw [(Ext.alloc_ a o).block b (by omega)]; exact h.block b (by omega)⟩
theorem Ext.box {a w : World} {cs : Array Value} {T : TypeId} (h : Ext (a.alloc (.cells cs T)) w) : w.heap[a.heap.size]? = some (.cells cs T (0, 0)) := ext_blk h (new_blk1 a cs T)
theorem Ext.boxSet {a w : World} {cs : Array Value} {T : TypeId} (h : Ext (a.alloc (.cells cs T)) w) (j : Nat) (u : Value) : Ext (a.alloc (.cells (cs.setIfInBounds j u) T)) (w.setCell ⟨a.heap.size, j, none⟩ u) :=
  Ext.snoc ((Ext.trans (Ext.alloc_ _ _) h).setCell_ (Nat.le_refl _) u) (blk_set h.box j u)

/-- An element whose body's block is its own: all but the row's block. -/
def El.new {α : Type} (K : Kind α) (w : World) (B : Nat) (e : El α) : Prop :=
  (e.A = none → e.c = 0) ∧ (K.bd e.x).length ≤ e.c ∧ (K.bd e.x = [] ∨ e.A = some ⟨e.g, 0, none⟩ ∧ B ≤ e.g ∧ e.g < w.heap.size ∧ ∃ (cs : Array Value) (T : TypeId), w.heap[e.g]? = some (.cells cs T (0, 0)) ∧ ∀ (j : Nat) (u : Int), (K.bd e.x)[j]? = some u → cs[j]? = some (Value.int .u8 u))
theorem El.new.ok {α : Type} {K : Kind α} {w : World} {B G : Nat} {e : El α} (h : e.new K w B) (hG : e.g ≠ G) : e.ok K w B w.heap.size G := by
  obtain ⟨h1, h2, h3⟩ := h
  refine ⟨h1, h2, h3.imp_right ?_⟩
  rintro ⟨a, b, c, d⟩
  exact ⟨a, b, c, hG, d⟩
theorem El.new.ext {α : Type} {K : Kind α} {w w' : World} {B : Nat} {e : El α} (h : e.new K w B) (hE : Ext w w') : e.new K w' B := by
  obtain ⟨h1, h2, h3⟩ := h
  refine ⟨h1, h2, h3.imp_right ?_⟩
  rintro ⟨a, b, c, cs, T, d, f⟩
  exact ⟨a, b, Nat.lt_of_lt_of_le c hE.size, cs, T, ext_blk hE d, f⟩
theorem El.new_of {α : Type} {K : Kind α} {w : World} {B g : Nat} {x : α} {A : Option Addr} {c : Nat} {T : TypeId} {cs : Array Value} (hA : A = some ⟨g, 0, none⟩) (hB : B ≤ g) (h : w.heap[g]? = some (.cells cs T (0, 0))) (hc : (K.bd x).length ≤ c)
    (hb : ∀ (j : Nat) (u : Int), (K.bd x)[j]? = some u → cs[j]? = some (Value.int .u8 u)) : (⟨x, g, A, c⟩ : El α).new K w B :=
  ⟨fun h => (by rw [hA] at h; cases h), hc, .inr ⟨hA, hB, (blk_cells h).2.2, cs, T, h, hb⟩⟩

/-- append of one element of its own. -/
theorem wpPush {P : Program} {ops : Array Oper} {rest : List Oper} {o : Oper} {a : Act} {w : World} {Q : Exit → Act → World → Prop} {α : Type} {K : Kind α} (s x : Operand) {t e : TypeId} {bytes : Nat} (hT : ElemTy P t e K.size bytes) (hgd : o.guard = none)
    (ho : o.op = .call { callee := .builtin .append, args := #[s, x], argTypes := #[t, t] }) (B : Nat) {X : Nat → Prop} {w0 w1 : World} (v : Value) (l : List α) (hs : a.eval s = v) (hA : AppR K e w0 B X v l) (hE : Ext w0 w)
    (A : Option Addr) (c : Nat) (y : α) (g : Nat) (Ay : Option Addr) (cy : Nat) (hx : a.eval x = .slice A 1 c) (hr : Cel w A (K.hd y (.slice Ay (K.bd y).length cy))) (hA1 : A ≠ none) (h1 : ∀ u ∈ K.hd y (.slice Ay (K.bd y).length cy), u.oneCell' = true)
    (hok : (⟨y, g, Ay, cy⟩ : El α).new K w B) (hg : w0.heap.size ≤ g) (hX : ∀ x, X x → x < w0.heap.size)
    (h63 : l.length + 1 ≤ maxLen) (hbytes : (l.length + 1) * bytes ≤ 140737488355328) (hbase : B ≤ w.heap.size) (hW : Ext w1 w) (hW1 : w1.heap.size ≤ B)
    (h : ∀ v' w', AppR K e w' B X v' (l ++ [y]) → Ext w1 w' → (∀ x, X x → w'.heap[x]? = w.heap[x]?) → wpList P ops Q rest (a.put o.dst v') w') : wpList P ops Q (o :: rest) a w := by
  obtain ⟨es, hO, hB0, hXb, rfl⟩ := hA
  have hO' := Ext.own hE hO
  have hlt := hO.lt
  refine wpApp s x hT hgd ho B v es.length (rowOf K es) hs hO' A 1 c (K.hd y (.slice Ay (K.bd y).length cy)) hx hr (by rw [K.hlen]; omega) (fun h => absurd h hA1) h1 (by simpa using h63) (by simpa using hbytes) hbase fun v' w' q1 q2 q3 => ?_
  refine h v' w' ⟨es ++ [⟨y, g, Ay, cy⟩], ?_, ?_, ?_, by simp⟩ (ext_grown hW q2 hO' hW1) (fun x hx => q2.block x (Nat.lt_of_lt_of_le (hX x hx) hE.size) (fun h => (hB0 x h.symm).1 hx))
  · rw [rowOf_append]
    have : rowOf K [(⟨y, g, Ay, cy⟩ : El α)] = K.hd y (.slice Ay (K.bd y).length cy) := by simp [rowOf, El.cells]
    rw [this]
    simpa using q1
  · intro G hG
    refine ⟨?_, ?_⟩
    · rcases q3 with q3 | q3
      · exact (hB0 G (by rw [← q3]; exact hG)).1
      · have : w.heap.size = G := by rw [q3] at hG; exact Option.some.inj hG
        intro hx
        have := hX G hx
        have := hE.size
        omega
    have hkeep : ∀ e' : El α, K.bd e'.x ≠ [] → e'.g < w.heap.size → v.ownBlock ≠ some e'.g → w'.heap[e'.g]? = w.heap[e'.g]? := fun e' _ h1 h2 => q2.block _ h1 (fun h => h2 h.symm)
    have hold : Bod K w' B w'.heap.size G es := by
      by_cases hes : es = []
      · subst hes; exact .nil
      · obtain ⟨G0, hG0⟩ : ∃ G0, v.ownBlock = some G0 := by
          rcases hO.2 with ⟨rfl, h0⟩ | ⟨g0, cap, cur, rfl, _⟩
          · exact absurd (List.eq_nil_of_length_eq_zero h0) hes
          · exact ⟨g0, rfl⟩
        have hb := (hB0 G0 hG0).2
        refine ⟨fun e' he' => ?_, hb.2⟩
        have h1 := (hb.1 e' he').ext hE
        obtain ⟨z1, z2, z3⟩ := h1
        refine ⟨z1, z2, ?_⟩
        by_cases h0 : K.bd e'.x = []
        · exact .inl h0
        · obtain ⟨a1, a2, a3, a4, cs, T, a5, a6⟩ := z3.resolve_left h0
          have a3' : e'.g < w.heap.size := (blk_cells a5).2.2
          refine .inr ⟨a1, a2, Nat.lt_of_lt_of_le a3' q2.size, ?_, cs, T, ?_, a6⟩
          · rcases q3 with q3 | q3
            · have : G0 = G := by rw [q3, hG0] at hG; exact Option.some.inj hG
              rw [← this]; exact a4
            · have : w.heap.size = G := by rw [q3] at hG; exact Option.some.inj hG
              omega
          · rw [hkeep e' h0 a3' (by rw [hG0]; intro h; exact a4 (Option.some.inj h).symm), a5]
    have hnew : (⟨y, g, Ay, cy⟩ : El α).ok K w' B w'.heap.size G := by
      obtain ⟨z1, z2, z3⟩ := hok
      refine ⟨z1, z2, ?_⟩
      by_cases h0 : K.bd y = []
      · exact .inl h0
      · obtain ⟨a1, a2, a3, cs, T, a5, a6⟩ := z3.resolve_left h0
        simp only at a1 a2 a3 a5 a6
        refine .inr ⟨a1, a2, Nat.lt_of_lt_of_le a3 q2.size, ?_, cs, T, ?_, a6⟩
        · rcases q3 with q3 | q3
          · have := hlt G (by rw [← q3]; exact hG)
            simp only; omega
          · have : w.heap.size = G := by rw [q3] at hG; exact Option.some.inj hG
            simp only; omega
        · have := hkeep ⟨y, g, Ay, cy⟩ h0 a3 (fun h => by have := hlt _ h; simp only at this; omega)
          simp only at this ⊢
          rw [this, a5]
    refine hold.snoc hnew fun e' he' h0 => ?_
    by_cases hes : es = []
    · subst hes; simp at he'
    · obtain ⟨G0, hG0⟩ : ∃ G0, v.ownBlock = some G0 := by
        rcases hO.2 with ⟨rfl, h1⟩ | ⟨g0, cap, cur, rfl, _⟩
        · exact absurd (List.eq_nil_of_length_eq_zero h1) hes
        · exact ⟨g0, rfl⟩
      have := (hB0 G0 hG0).2.lt he' h0
      simp only
      omega
  · intro e' he' h0
    rw [List.mem_append] at he'
    rcases he' with h1 | h1
    · exact hXb e' h1 h0
    · simp at h1
      subst h1
      intro hx
      have := hX _ hx
      simp only at this
      omega
end Go.Proofs.Ytkmklafjcjkpdaa
