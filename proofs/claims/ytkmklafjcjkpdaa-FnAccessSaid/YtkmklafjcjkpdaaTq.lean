/- Transmit queues: what came in, the size check, the copy and the comparison of the laws. -/
import Derived.Test.YtkmklafjcjkpdaaQue
namespace Go.Proofs.Ytkmklafjcjkpdaa
open Go.RowKit
set_option linter.unusedVariables false
set_option linter.unusedSimpArgs false

/-- A body that came in: not too long, and bytes. -/
def Byt (l : List Int) : Prop := l.length ≤ maxLen ∧ ∀ z ∈ l, 0 ≤ z ∧ z ≤ 255
theorem u8_range {z : Int} (h : (Lit.int .u8 z).wf = true) : 0 ≤ z ∧ z ≤ 255 := by
  have h1 : IntKind.u8.min = 0 := rfl
  have h2 : IntKind.u8.max = 255 := rfl
  simp [Lit.wf] at h
  try simp [IntKind.inRange] at h
  rw [h1, h2] at h
  exact h
theorem one_f {w : World} {cs : List Value} {fs : Array Field} {t e : TypeId} (ht : Try.prog.underlying t = some (.struct fs)) (h : Rd Try.prog w t cs) (i : Nat) (f : Field) (hf : fs[i]? = some f)
    (hk : f.type = e) (hc : Try.prog.cellsOf e = 1) : Rd Try.prog w e ((cs.drop f.offset).take 1) := by
  have h1 := (Rd.struct ht h).2 i f hf
  rw [hk, hc] at h1
  exact h1
theorem bytes_f2 {w : World} {cs : List Value} {fs : Array Field} {t : TypeId} (ht : Try.prog.underlying t = some (.struct fs)) (h : Rd Try.prog w t cs) (i : Nat) (f : Field) (hf : fs[i]? = some f)
    (hk : f.type = 22) : ∃ A l c, (cs.drop f.offset).take 1 = [.slice A (List.length l) c] ∧ RB w A c l ∧ Byt l := by
  have h1 := (Rd.struct ht h).2 i f hf
  rw [hk, show Try.prog.cellsOf 22 = 1 from by kernel_rfl] at h1
  obtain ⟨A, n, c, h2⟩ := slice_cell Try.underlying22 h1
  rw [h2] at h1
  obtain ⟨zs, g1, g2, g6, g3, g4, g5⟩ := view_nums Try.underlying22 Try.underlying5 cells_byte h1
  subst g1
  exact ⟨A, zs, c, h2, ⟨g2, g3, g4⟩, by omega, fun z hz => u8_range (g6 z hz)⟩
theorem new_blk3 (w : World) (o1 o2 : Obj) (c : Array Value) (t : TypeId) : (((w.alloc o1).alloc o2).alloc (.cells c t (0, 0))).heap[w.heap.size + 1 + 1]? = some (.cells c t (0, 0)) := by
  have := heap_alloc_new ((w.alloc o1).alloc o2) (.cells c t (0, 0))
  rwa [World.size_alloc, World.size_alloc] at this
end Go.Proofs.Ytkmklafjcjkpdaa
