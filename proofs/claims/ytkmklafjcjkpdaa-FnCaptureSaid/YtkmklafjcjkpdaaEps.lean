/- Who is exposed: both walks. -/
import Derived.Test.YtkmklafjcjkpdaaRci
namespace Go.Proofs.Ytkmklafjcjkpdaa
open Go.RowKit
set_option linter.unusedVariables false
set_option linter.unusedSimpArgs false
def difB (a b x y : Int) : Bool := a != b && a != x && a != y && b != x && b != y && x != y
theorem ex_eq (P : List Int) (rg sn a b x y : Int) : exB P rg sn a b x y = (difB a b x y && crB P rg a x && crB P rg b y && crB P sn a b && decide (rfV P rg sn [a, b] x = a) && decide (rfV P rg sn [a, b] y = b)) := rfl
theorem dif_no {a b x y : Int} (h : a = b ∨ a = x ∨ a = y ∨ b = x ∨ b = y ∨ x = y) : difB a b x y = false := by
  unfold difB
  rcases h with h | h | h | h | h | h <;> subst h <;> simp
theorem dif_yes {a b x y : Int} (h1 : a ≠ b) (h2 : a ≠ x) (h3 : a ≠ y) (h4 : b ≠ x) (h5 : b ≠ y) (h6 : x ≠ y) : difB a b x y = true := by
  unfold difB
  simp [h1, h2, h3, h4, h5, h6]
/-- No two are the same, by position. -/
theorem dif_pos {a b x y : Int} : difB a b x y = true ↔ ∀ i k : Nat, k < i → i < 4 → [a, b, x, y][i]? ≠ [a, b, x, y][k]? := by
  unfold difB
  simp only [Bool.and_eq_true, bne_iff_ne, ne_eq]
  constructor
  · rintro ⟨⟨⟨⟨⟨h1, h2⟩, h3⟩, h4⟩, h5⟩, h6⟩ i k hk hi
    match i, k, hk, hi with
    | 1, 0, _, _ => simpa using fun h => h1 h.symm
    | 2, 0, _, _ => simpa using fun h => h2 h.symm
    | 2, 1, _, _ => simpa using fun h => h4 h.symm
    | 3, 0, _, _ => simpa using fun h => h3 h.symm
    | 3, 1, _, _ => simpa using fun h => h5 h.symm
    | 3, 2, _, _ => simpa using fun h => h6 h.symm
  · intro h
    refine ⟨⟨⟨⟨⟨?_, ?_⟩, ?_⟩, ?_⟩, ?_⟩, ?_⟩
    · have := h 1 0 (by omega) (by omega); simp at this; exact fun e => this e.symm
    · have := h 2 0 (by omega) (by omega); simp at this; exact fun e => this e.symm
    · have := h 3 0 (by omega) (by omega); simp at this; exact fun e => this e.symm
    · have := h 2 1 (by omega) (by omega); simp at this; exact fun e => this e.symm
    · have := h 3 1 (by omega) (by omega); simp at this; exact fun e => this e.symm
    · have := h 3 2 (by omega) (by omega); simp at this; exact fun e => this e.symm
end Go.Proofs.Ytkmklafjcjkpdaa
