/- A message taken out of a queue: the reference's side. -/
import Derived.Test.YtkmklafjcjkpdaaEnq
import Derived.Test.YtkmklafjcjkpdaaNb
namespace Go.Proofs.Ytkmklafjcjkpdaa
open Go.RowKit
set_option linter.unusedVariables false
set_option linter.unusedSimpArgs false

def tkL (l : List Msg) (i : Int) : List Msg := if 0 ≤ i ∧ i < l.length then l.eraseIdx i.toNat else l
def tkM (l : List Msg) (i : Int) : Msg := if 0 ≤ i then l[i.toNat]?.getD ⟨0, 0, 0, []⟩ else ⟨0, 0, 0, []⟩
def tkB (l : List Msg) (i : Int) : Bool := decide (0 ≤ i ∧ i < l.length)
theorem tkM_get {l : List Msg} {k : Nat} (h : k < l.length) : tkM l k = l[k] := by simp [tkM, h]
theorem tkM_not {l : List Msg} {i : Int} (h : ¬ (0 ≤ i ∧ i < l.length)) : tkM l i = ⟨0, 0, 0, []⟩ := by
  unfold tkM
  split
  · rw [List.getElem?_eq_none (by omega)]
    rfl
  · rfl
theorem AppR.own' {α : Type} {K : Kind α} {T : TypeId} {w : World} {B n c : Nat} {X : Nat → Prop} {A : Option Addr} {l : List α} (h : AppR K T w B X (.slice A n c) l) : Own K w B w.heap.size A l := by
  obtain ⟨A3, c3, e3, -, -, hO, -⟩ := h.own
  injection e3 with e3
  subst e3
  exact hO
end Go.Proofs.Ytkmklafjcjkpdaa
