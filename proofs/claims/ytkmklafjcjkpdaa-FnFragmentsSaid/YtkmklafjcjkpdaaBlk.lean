/- Blocks that are known whole, carried along while the world grows. -/
import Derived.Test.YtkmklafjcjkpdaaBase
namespace Go.Proofs.Ytkmklafjcjkpdaa
open Go.RowKit
set_option linter.unusedVariables false
set_option linter.unusedSimpArgs false
theorem ext_blk {w w' : World} {g : Nat} {o : Obj} (hE : Ext w w') (h : w.heap[g]? = some o) : w'.heap[g]? = some o := by
  have hlt : g < w.heap.size := by
    rcases Nat.lt_or_ge g w.heap.size with h1 | h1
    · exact h1
    · rw [Array.getElem?_eq_none h1] at h
      cases h
  rw [hE.block g hlt]
  exact h
theorem alloc_blk {w : World} {g : Nat} {o : Obj} (o' : Obj) (h : w.heap[g]? = some o) : (w.alloc o').heap[g]? = some o := ext_blk (Ext.alloc_ w o') h
theorem set_blk {w : World} {g : Nat} {o : Obj} {p : Addr} {u : Value} (h : w.heap[g]? = some o) (hne : g ≠ p.block) : (w.setCell p u).heap[g]? = some o := by
  rw [Below.heap_setCell _ _ _ _ hne]
  exact h
/-- The two newest blocks. -/
theorem new_blk1 (w : World) (c : Array Value) (t : TypeId) : (w.alloc (.cells c t (0, 0))).heap[w.heap.size]? = some (.cells c t (0, 0)) := heap_alloc_new w _
theorem new_blk2 (w : World) (o : Obj) (c : Array Value) (t : TypeId) : ((w.alloc o).alloc (.cells c t (0, 0))).heap[w.heap.size + 1]? = some (.cells c t (0, 0)) := by
  have := heap_alloc_new (w.alloc o) (.cells c t (0, 0))
  rwa [World.size_alloc] at this
end Go.Proofs.Ytkmklafjcjkpdaa
