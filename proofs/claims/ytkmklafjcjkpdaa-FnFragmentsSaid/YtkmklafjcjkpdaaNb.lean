/- Bytes of their own, where the world is changed elsewhere, or where they are marked. -/
import Derived.Test.YtkmklafjcjkpdaaLaw
import Derived.Test.YtkmklafjcjkpdaaCpy
namespace Go.Proofs.Ytkmklafjcjkpdaa
open Go.RowKit
set_option linter.unusedVariables false
set_option linter.unusedSimpArgs false
section
variable {w w' : World} {B g : Nat} {A : Option Addr} {c : Nat} {l : List Int}
theorem NewB.lt (h : NewB w B g A c l) (h0 : l.length ≠ 0) : g < w.heap.size := by
  obtain ⟨_, _, _, h4⟩ := h
  rcases h4 with h4 | ⟨_, b, _⟩
  · subst h4; exact absurd rfl h0
  · exact b
theorem NewB.chgN {S : Nat → Prop} (h : NewB w B g A c l) (hc : Chg w w' S) (hS : l.length ≠ 0 → ¬ S g) : NewB w' B g A c l := by
  obtain ⟨h1, h2, h3, h4⟩ := h
  by_cases h0 : l = []
  · exact ⟨h1, h2, h3, .inl h0⟩
  · obtain ⟨a, b, cs, T, d, e⟩ := h4.resolve_left h0
    exact ⟨h1, h2, h3, .inr ⟨a, Nat.lt_of_lt_of_le b hc.size, cs, T, hc.blk d (hS (by simpa using h0)), e⟩⟩
theorem NewB.mk (h : NewB w B g A c l) : l.length = 0 ∨ A = some ⟨g, 0, none⟩ ∧ ∃ (cs : Array Value) (T : TypeId), w.heap[g]? = some (.cells cs T (0, 0)) ∧ l.length ≤ cs.size := by
  obtain ⟨h1, h2, h3, h4⟩ := h
  rcases h4 with h4 | ⟨a, b, cs, T, d, e⟩
  · exact .inl (by simp [h4])
  · refine .inr ⟨a, cs, T, d, ?_⟩
    rcases Nat.lt_or_ge cs.size l.length with h | h
    · have := e cs.size _ (List.getElem?_eq_getElem h)
      rw [Array.getElem?_eq_none (Nat.le_refl _)] at this
      cases this
    · exact h
theorem NewB.marked {k : Int} (h : NewB w B g A c l) (hn : l.length ≠ 0 → ∃ (cs : Array Value) (T : TypeId), w'.heap[g]? = some (.cells cs T (0, 0)) ∧ ∀ (j : Nat) (u : Int), (bytesK k l.length)[j]? = some u → cs[j]? = some (Value.int .u8 u)) : NewB w' B g A c (bytesK k l.length) := by
  obtain ⟨h1, h2, h3, h4⟩ := h
  refine ⟨h1, by rw [bytesK_len]; exact h2, h3, ?_⟩
  by_cases h0 : l.length = 0
  · refine .inl ?_
    rw [h0]
    rfl
  · have h0' : l ≠ [] := fun h => h0 (by rw [h]; rfl)
    obtain ⟨a, _⟩ := h4.resolve_left h0'
    obtain ⟨cs, T, d, e⟩ := hn h0
    exact .inr ⟨a, heap_lt d, cs, T, d, e⟩
end
/-- A value that reads as a frame. -/
def SP.macN (kd fm to sq fr : Int) (mo re : Bool) (du : Int) (n : Nat) (l : List Int) : SP :=
  { p := fun v w => ∃ A c, v = .agg #[.int .i64 kd, .int .i64 fm, .int .i64 to, .int .i64 sq, .int .i64 fr, .bool mo, .bool re, .int .i64 du, .slice A n c] ∧ RB w A c l
    st := fun v w w' hE ⟨A, c, h1, h2⟩ => ⟨A, c, h1, h2.ext hE⟩ }
end Go.Proofs.Ytkmklafjcjkpdaa
