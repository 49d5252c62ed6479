/- For the walks of the laws that mark their results: what is kept where a world is changed. -/
import Derived.Test.YtkmklafjcjkpdaaMk2
import Derived.Test.YtkmklafjcjkpdaaTq
namespace Go.Proofs.Ytkmklafjcjkpdaa
open Go.RowKit
set_option linter.unusedVariables false
set_option linter.unusedSimpArgs false

theorem Chg.blk {a b : World} {S : Nat → Prop} {g : Nat} {o : Obj} (h : Chg a b S) (hb : a.heap[g]? = some o) (hg : ¬ S g) : b.heap[g]? = some o := by rw [h.block g (heap_lt hb) hg, hb]
theorem blkE {W0 : World} {g : Nat} {cs : Array Value} {T : TypeId} (h : W0.heap[g]? = some (.cells cs T (0, 0))) (wX : World) (hE : Ext W0 wX) : (∀ i, wX.cell? ⟨g, i, none⟩ = cs[i]?) ∧ (∀ i, wX.frozen? ⟨g, i, none⟩ = false) ∧ g < wX.heap.size :=
  blk_cells (ext_blk hE h)
theorem tot_sub {α : Type} {K : Kind α} {l' l : List α} (h : l'.Sublist l) : (l'.length : Int) + tot K l' ≤ l.length + tot K l ∧ tot K l' ≤ tot K l := by
  induction h with
  | slnil => simp
  | cons a h ih => simp [tot] at ih ⊢; omega
  | cons_cons a h ih => simp [tot] at ih ⊢; omega
theorem sumC_msg (l : List Msg) : ((sumC cMsg l : Nat) : Int) = 3 * l.length + tot kMsg l := by
  induction l with
  | nil => simp [sumC, tot]
  | cons x xs ih =>
    have : tot kMsg (x :: xs) = x.body.length + tot kMsg xs := by simp [tot, kMsg]
    rw [this]
    simp only [sumC, List.map_cons, List.sum_cons, cMsg, List.length_cons] at ih ⊢
    omega
theorem sumC_rea (l : List Rea) : ((sumC cRea l : Nat) : Int) = 4 * l.length + tot kRea l := by
  induction l with
  | nil => simp [sumC, tot]
  | cons x xs ih =>
    have : tot kRea (x :: xs) = x.body.length + tot kRea xs := by simp [tot, kRea]
    rw [this]
    simp only [sumC, List.map_cons, List.sum_cons, cRea, List.length_cons] at ih ⊢
    omega
theorem sumC_seen (l : List Seen) : ((sumC cSeen l : Nat) : Int) = 4 * l.length := by
  induction l with
  | nil => simp [sumC]
  | cons x xs ih =>
    simp only [sumC, List.map_cons, List.sum_cons, cSeen, List.length_cons] at ih ⊢
    omega
/-- A value that reads as a queue. -/
def SP.tqL (n : Nat) (d : Int) (l : List Msg) : SP :=
  { p := fun v w => ∃ A c, v = .agg #[.slice A n c, .int .i64 d] ∧ Els w A 4 (kE kMsg) l
    st := fun v w w' hE ⟨A, c, h1, h2⟩ => ⟨A, c, h1, els_up h2 hE⟩ }
end Go.Proofs.Ytkmklafjcjkpdaa
