/- Drawn regions that draw from the cursor: the relation of worlds, its steps. -/
import Derived.Test.YtkmklafjcjkpdaaRegC
import Derived.Test.YtkmklafjcjkpdaaDrw
namespace Go.Proofs.Ytkmklafjcjkpdaa
open Go.RowKit
set_option linter.unusedVariables false
set_option linter.unusedSimpArgs false
/-- Changed at the cursor's block only; the cursor stays one. -/
abbrev relC (b : Nat) : C.Rel where
  r w w' := Chg w w' (fun y => y = b) ∧ (Cur w b → Cur w' b)
  rf w := ⟨Chg.refl _ _, id⟩
  tr h k := ⟨h.1.trans k.1, fun x => k.2 (h.2 x)⟩
  dr h := ⟨h.1.trans (Chg.of_ext _ (Ext.drew (Ext.refl _))), fun x => (h.2 x).ext (Ext.drew (Ext.refl _))⟩
abbrev XC (b : Nat) (w w' : World) : Prop := C.Ext (R := relC b) w w'
section
variable {w w' : World} {b : Nat}
theorem XC.of_drawn (h : Drawn w w' b) : XC b w w' := ⟨h.1, fun _ => h.2⟩
theorem XC.of_ext (h : Ext w w') : XC b w w' := ⟨Chg.of_ext _ h, fun x => x.ext h⟩
theorem XC.chg (h : XC b w w') : Chg w w' (fun y => y = b) := h.1
theorem XC.cur (h : XC b w w') (hC : Cur w b) : Cur w' b := h.2 hC
theorem XC.drawn (h : XC b w w') (hC : Cur w b) : Drawn w w' b := ⟨h.1, h.2 hC⟩
theorem XC.blk (h : XC b w w') {g : Nat} {o : Obj} (hg : w.heap[g]? = some o) (hne : g ≠ b) : w'.heap[g]? = some o := by
  rw [h.1.block g (heap_lt hg) hne, hg]
theorem XC.size (h : XC b w w') : w.heap.size ≤ w'.heap.size := h.1.size
theorem Cel.chg {S : Nat → Prop} {A : Option Addr} {xs : List Value} (h : Cel w A xs) (hc : Chg w w' S) (hS : ∀ b' o, A = some ⟨b', o, none⟩ → ¬ S b') : Cel w' A xs := by
  rcases h with h | ⟨g, off, h1, h2, h3⟩
  · exact .inl h
  · refine .inr ⟨g, off, h1, Nat.lt_of_lt_of_le h2 hc.size, fun j u hu => ?_⟩
    have := h3 j u hu
    unfold World.cell? at this ⊢
    simp only at this ⊢
    rw [hc.block g h2 (hS g off h1)]
    exact this
end
/-- A value that is as said; a list of numbers away from the cursor. -/
def SPC.val (b : Nat) (Φ : Value → Prop) : C.SP (R := relC b) := C.SP.mk (R := relC b) (fun v _ => Φ v) (fun _ _ _ _ h => h) id (fun _ _ _ => rfl)
def SPC.ints (b : Nat) (l : List Int) : C.SP (R := relC b) :=
  C.SP.mk (R := relC b) (fun v w => ∃ A, v = .slice A l.length l.length ∧ Cel w A (l.map (Value.int .i64)) ∧ ∀ b' o, A = some ⟨b', o, none⟩ → b' ≠ b)
    (fun _ _ _ hE ⟨A, h1, h2, h3⟩ => ⟨A, h1, Cel.chg h2 (XC.chg hE) (fun b' o h => h3 b' o h), h3⟩) id (fun _ _ _ => rfl)
end Go.Proofs.Ytkmklafjcjkpdaa
