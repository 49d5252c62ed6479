/- Marks of a queue beside a message whose body's block is none of the queue's. -/
import Derived.Test.YtkmklafjcjkpdaaMk2
namespace Go.Proofs.Ytkmklafjcjkpdaa
open Go.RowKit
set_option linter.unusedVariables false
set_option linter.unusedSimpArgs false

/-- None of a row's blocks is X. -/
def AvE {α : Type} (K : Kind α) (X G : Nat) (es : List (El α)) : Prop := G ≠ X ∧ ∀ e ∈ es, K.bd e.x ≠ [] → e.g ≠ X
def OwnX {α : Type} (K : Kind α) (w : World) (B C X : Nat) (A : Option Addr) (l : List α) : Prop :=
  l = [] ∨ ∃ (G : Nat) (T : TypeId) (es : List (El α)), A = some ⟨G, 0, none⟩ ∧ OwnE K w B C G T es ∧ AvE K X G es ∧ es.map (·.x) = l
section
variable {α : Type} {K : Kind α} {w w' : World} {B C X G : Nat} {T : TypeId} {es : List (El α)} {A : Option Addr} {l : List α}
theorem AvE.set (h : AvE K X G es) (i : Nat) (hi : i < es.length) {x' : α} (hb : (K.bd x').length = (K.bd es[i].x).length) : AvE K X G (es.set i { es[i] with x := x' }) := by
  refine ⟨h.1, fun e he h0 => ?_⟩
  rcases List.mem_or_eq_of_mem_set he with he | rfl
  · exact h.2 e he h0
  · refine h.2 es[i] (List.getElem_mem _) fun h1 => h0 ?_
    rw [h1] at hb
    exact List.eq_nil_of_length_eq_zero (by simpa using hb)
theorem OwnX.own (h : OwnX K w B C X A l) : Own K w B C A l := by
  rcases h with h | ⟨G, T, es, rfl, h1, _, rfl⟩
  · exact .inl h
  · exact h1.own
theorem OwnX.ext (h : OwnX K w B C X A l) (hE : Ext w w') : OwnX K w' B C X A l := by
  rcases h with h | ⟨G, T, es, h0, ⟨h1, h2, ⟨cs, h3, h4⟩, h5⟩, h6, h7⟩
  · exact .inl h
  · exact .inr ⟨G, T, es, h0, ⟨h1, h2, ⟨cs, ext_blk hE h3, h4⟩, h5.ext hE⟩, h6, h7⟩
theorem OwnX.chg {S : Nat → Prop} (h : OwnX K w B C X A l) (hc : Chg w w' S) (hS : ∀ x, B ≤ x → x < C → x ≠ X → ¬ S x) : OwnX K w' B C X A l := by
  rcases h with h | ⟨G, T, es, h0, ⟨h1, h2, ⟨cs, h3, h4⟩, h5⟩, h6, h7⟩
  · exact .inl h
  · refine .inr ⟨G, T, es, h0, ⟨h1, h2, ⟨cs, by rw [hc.block G (heap_lt h3) (hS G h1 h2 h6.1), h3], h4⟩, ⟨fun e he => (h5.1 e he).chg hc fun h0 => ?_, h5.2⟩⟩, h6, h7⟩
    obtain ⟨_, _, q⟩ := h5.1 e he
    obtain ⟨_, q2, q3, _⟩ := q.resolve_left h0
    exact hS _ q2 q3 (h6.2 e he h0)
/-- Nothing of a row lies at X where X is not below its bound. -/
theorem Own.x (h : Own K w B C A l) (hX : C ≤ X ∨ X < B) : OwnX K w B C X A l := by
  by_cases hl : l = []
  · exact .inl hl
  · obtain ⟨G, T, es, h0, h1, h2⟩ := h.open_ hl
    obtain ⟨q1, q2, _, hB⟩ := h1
    refine .inr ⟨G, T, es, h0, ⟨q1, q2, ‹_›, hB⟩, ⟨by omega, fun e he h0 => ?_⟩, h2⟩
    obtain ⟨_, _, q⟩ := hB.1 e he
    obtain ⟨_, a, b, _⟩ := q.resolve_left h0
    omega
theorem OwnX.mono {B' C' : Nat} (h : OwnX K w B C X A l) (hB : B' ≤ B) (hC : C ≤ C') : OwnX K w B' C' X A l := by
  rcases h with h | ⟨G, T, es, h0, ⟨h1, h2, ⟨cs, h3, h4⟩, h5⟩, h6, h7⟩
  · exact .inl h
  · exact .inr ⟨G, T, es, h0, ⟨by omega, by omega, ⟨cs, h3, h4⟩, h5.mono hB hC⟩, h6, h7⟩
end
end Go.Proofs.Ytkmklafjcjkpdaa
