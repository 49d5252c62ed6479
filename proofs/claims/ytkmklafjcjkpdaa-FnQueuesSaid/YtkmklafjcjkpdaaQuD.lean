/- Rows built by append under a change elsewhere. -/
import Derived.Test.YtkmklafjcjkpdaaSeP
namespace Go.Proofs.Ytkmklafjcjkpdaa
open Go.RowKit
set_option linter.unusedVariables false
set_option linter.unusedSimpArgs false
theorem AppR.chg {α : Type} {K : Kind α} {T : TypeId} {w w' : World} {B : Nat} {X : Nat → Prop} {v : Value} {l : List α} {S : Nat → Prop} (h : AppR K T w B X v l) (hc : Chg w w' S) (hS : ∀ y, B ≤ y → y < w.heap.size → ¬ S y) : AppR K T w' B X v l := by
  obtain ⟨es, h1, h2, hx, h3⟩ := h
  refine ⟨es, own_chg2 h1 hc hS, fun G hG => ⟨(h2 G hG).1, ⟨fun e he => ?_, (h2 G hG).2.2⟩⟩, hx, h3⟩
  have h4 := (h2 G hG).2.1 e he
  have h5 := h4.chg hc (fun h0 => by
    obtain ⟨_, _, q⟩ := h4
    obtain ⟨_, q2, q3, _⟩ := q.resolve_left h0
    exact hS _ q2 q3)
  exact h5.mono (Nat.le_refl _) hc.size
end Go.Proofs.Ytkmklafjcjkpdaa
