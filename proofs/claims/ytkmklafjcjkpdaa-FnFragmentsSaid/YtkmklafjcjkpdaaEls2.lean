/- A row's reading carried along; owned rows kept. -/
import Derived.Test.YtkmklafjcjkpdaaEls
namespace Go.Proofs.Ytkmklafjcjkpdaa
open Go.RowKit
theorem els_up {α : Type} {K : Kind α} {w w' : World} {A : Option Addr} {s : Nat} {l : List α} (h : Els w A s (kE K) l) (hE : Ext w w') : Els w' A s (kE K) l := h.ext hE (fun x cs h => kE.ext hE x cs h)
/-- A row is kept where its blocks are. -/
theorem Own.keep {α : Type} {K : Kind α} {w w' : World} {B C : Nat} {A : Option Addr} {l : List α} (h : Own K w B C A l) (hk : ∀ b, B ≤ b → b < C → w'.heap[b]? = w.heap[b]?) : Own K w' B C A l := by
  rcases h with h | ⟨G, es, cs, T, h1, h2, h3, h4, h5, h6, h7⟩
  · exact .inl h
  · refine .inr ⟨G, es, cs, T, h1, h2, h3, by rw [hk G h2 h3, h4], h5, ⟨fun e he => (h6.1 e he).keep fun h0 => ?_, h6.2⟩, h7⟩
    obtain ⟨_, _, q⟩ := h6.1 e he
    obtain ⟨_, q2, q3, _⟩ := q.resolve_left h0
    exact hk _ q2 q3
theorem Own.set_ {α : Type} {K : Kind α} {w : World} {B C : Nat} {A : Option Addr} {l : List α} (h : Own K w B C A l) {p : Addr} (hp : p.block < B) (u : Value) : Own K (w.setCell p u) B C A l :=
  h.keep fun b h1 _ => Below.heap_setCell _ _ _ _ (by omega)
end Go.Proofs.Ytkmklafjcjkpdaa
