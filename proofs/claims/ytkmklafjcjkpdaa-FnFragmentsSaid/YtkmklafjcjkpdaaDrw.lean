/- Draws from the cursor: a number below a bound, one of a list, once in so many. -/
import Derived.Test.YtkmklafjcjkpdaaCur
namespace Go.Proofs.Ytkmklafjcjkpdaa
open Go.RowKit
set_option linter.unusedVariables false
set_option linter.unusedSimpArgs false
/-- What a draw does to the world. -/
def Drawn (w w' : World) (b : Nat) : Prop := Chg w w' (fun y => y = b) ∧ Cur w' b
theorem Drawn.trans {a w w' : World} {b : Nat} (h : Drawn a w b) (k : Drawn w w' b) : Drawn a w' b := ⟨h.1.trans k.1, k.2⟩
theorem Cur.ext {w w' : World} {b : Nat} (h : Cur w b) (hE : Ext w w') : Cur w' b := by
  obtain ⟨A, n, c, p, s, l, h1, h2, h3, h⟩ := h
  exact ⟨A, n, c, p, s, l, ext_blk hE h1, h2, h3.ext hE, h⟩
theorem Drawn.ext {w w' w'' : World} {b : Nat} (h : Drawn w w' b) (hE : Ext w' w'') : Drawn w w'' b := ⟨h.1.trans (Chg.of_ext _ hE), h.2.ext hE⟩
theorem Drawn.of_ext {w w' : World} {b : Nat} (h : Cur w b) (hE : Ext w w') : Drawn w w' b := ⟨Chg.of_ext _ hE, h.ext hE⟩
theorem Cur.set_ {w : World} {b : Nat} (h : Cur w b) {p : Addr} (hp : b < p.block) (u : Value) : Cur (w.setCell p u) b := by
  obtain ⟨A, n, c, p', s, l, h1, h2, h3, h4, h5, h6, h7⟩ := h
  refine ⟨A, n, c, p', s, l, ?_, h2, h3.chg (S := fun y => y = p.block) (Chg.set (p := p) (Chg.refl w (fun y => y = p.block)) rfl u) (fun h0 b' o h hx => ?_), h4, h5, h6, h7⟩
  · rw [Below.heap_setCell _ _ _ _ (by omega)]
    exact h1
  · have := h7 h0 b' o h
    omega
/-- A block that was made after the cursor is written. -/
theorem Drawn.set_ {w w' : World} {b : Nat} (h : Drawn w w' b) {p : Addr} (hp : w.heap.size ≤ p.block) (hb : b < p.block) (u : Value) : Drawn w (w'.setCell p u) b :=
  ⟨⟨h.1.os, h.1.tape, h.1.output, by simpa using h.1.size, fun y hy hne => by
    rw [Below.heap_setCell _ _ _ _ (by omega)]
    exact h.1.block y hy hne⟩, h.2.set_ hb u⟩
theorem Drawn.blk {w w' : World} {b g : Nat} {o : Obj} (h : Drawn w w' b) (hg : w.heap[g]? = some o) (hne : g ≠ b) : w'.heap[g]? = some o := by
  rw [h.1.block g (heap_lt hg) hne, hg]
theorem mod_lt {x n : Int} (hx : 0 ≤ x) (hn : 0 < n) : 0 ≤ x.tmod n ∧ x.tmod n < n := by
  rw [Int.tmod_eq_emod_of_nonneg hx]
  exact ⟨Int.emod_nonneg _ (by omega), Int.emod_lt_of_pos _ hn⟩
theorem sBelow (w : World) (b : Nat) (n : Int) (hC : Cur w b) (hn : 0 < n ∧ n ≤ 1000000000) :
    Calls Try.prog 118 #[.pointer (some ⟨b, 0, none⟩), .int .i64 n] w fun e w' => ∃ x : Int, e = .returned (.int .i64 x) ∧ (0 ≤ x ∧ x < n) ∧ Drawn w w' b := by
  have hC' := Lib.hid hC
  clear hC
  obtain ⟨hn0, hn1⟩ := hn
  have hne : n ≠ 0 := by omega
  have hle : ¬ n ≤ 0 := by omega
  by_cases h256 : n ≤ 256
  · go_enter Try.func118, Try.ntmps118
    go_wp2_with fail
    refine (sByte _ _ hC'.out).mono ?_
    rintro e w1 ⟨x, rfl, ⟨hx0, hx1⟩, h1, h2⟩
    have D1 := Lib.hid (show Drawn w w1 b from ⟨h1, h2⟩)
    clear h1 h2
    go_wp2_with fail
    go_ret
    exact ⟨_, rfl, ⟨Int.emod_nonneg _ hne, Int.emod_lt_of_pos _ hn0⟩, D1.out⟩
  · have h256' : 256 < n := by omega
    go_enter Try.func118, Try.ntmps118
    go_wp2_with fail
    refine (sByte _ _ hC'.out).mono ?_
    rintro e w1 ⟨x, rfl, ⟨hx0, hx1⟩, h1, h2⟩
    have D1 := Lib.hid (show Drawn w w1 b from ⟨h1, h2⟩)
    clear h1 h2
    go_wp2_with fail
    refine (sByte _ _ D1.out.2).mono ?_
    rintro e w2 ⟨y, rfl, ⟨hy0, hy1⟩, h1, h2⟩
    have D2 := Lib.hid (D1.out.trans ⟨h1, h2⟩)
    clear h1 h2
    go_wp2_with fail
    refine (sByte _ _ D2.out.2).mono ?_
    rintro e w3 ⟨z, rfl, ⟨hz0, hz1⟩, h1, h2⟩
    have D3 := Lib.hid (D2.out.trans ⟨h1, h2⟩)
    clear h1 h2
    go_wp2_with fail
    go_ret
    exact ⟨_, rfl, ⟨Int.emod_nonneg _ hne, Int.emod_lt_of_pos _ hn0⟩, D3.out⟩
theorem sOnce (w : World) (b : Nat) (n : Int) (hC : Cur w b) (hn : 0 < n ∧ n ≤ 1000000000) :
    Calls Try.prog 147 #[.pointer (some ⟨b, 0, none⟩), .int .i64 n] w fun e w' => ∃ x : Bool, e = .returned (.bool x) ∧ Drawn w w' b := by
  go_enter Try.func147, Try.ntmps147
  go_wp2_with fail
  refine (sBelow _ _ _ hC hn).mono ?_
  rintro e w1 ⟨x, rfl, ⟨hx0, hx1⟩, h1⟩
  have D1 := Lib.hid h1
  clear h1 hC
  go_wp2_with fail
  go_ret
  exact ⟨_, rfl, D1.out⟩
theorem sOneOf (w : World) (b : Nat) (A : Option Addr) (n c : Nat) (l : List Int) (hC : Cur w b) (hn : l.length = n) (h0 : 0 < n ∧ n ≤ 1000000) (hr : Cel w A (l.map (Value.int .i64))) (hA : ∀ b' o, A = some ⟨b', o, none⟩ → b' ≠ b) :
    Calls Try.prog 104 #[.pointer (some ⟨b, 0, none⟩), .slice A n c] w fun e w' => ∃ x : Int, e = .returned (.int .i64 x) ∧ x ∈ l ∧ Drawn w w' b := by
  obtain ⟨g, off, rfl, h1, h2⟩ : ∃ g off, A = some ⟨g, off, none⟩ ∧ g < w.heap.size ∧ ∀ j u, (l.map (Value.int .i64))[j]? = some u → w.cell? ⟨g, off + j, none⟩ = some u := by
    rcases hr with h | ⟨g, off, h3, h4, h5⟩
    · exfalso
      have : l = [] := by simpa using h
      subst this
      simp at hn
      omega
    · exact ⟨g, off, h3, h4, h5⟩
  have hg := hA g off rfl
  have hC' := Lib.hid hC
  have h2' := Lib.hid h2
  have N1 := Lib.hid hn
  obtain ⟨n0, n1⟩ := h0
  clear hC hr hA h2 hn
  go_enter Try.func104, Try.ntmps104
  go_wp2_with fail
  refine (sBelow _ _ _ hC'.out ⟨by omega, by omega⟩).mono ?_
  rintro e w1 ⟨x, rfl, ⟨hx0, hx1⟩, hD⟩
  obtain ⟨k, rfl⟩ : ∃ k : Nat, x = (k : Int) := ⟨x.toNat, by omega⟩
  have hk : k < l.length := by rw [N1.out]; omega
  have hcell : w1.cell? ⟨g, off + k, none⟩ = some (.int .i64 l[k]) := by
    have := h2'.out k (.int .i64 l[k]) (by simp [hk])
    unfold World.cell? at this ⊢
    simp only at this ⊢
    rw [hD.1.block g h1 hg]
    exact this
  have D1 := Lib.hid hD
  clear hD h1
  go_wp2_with fail
  go_ret
  exact ⟨_, rfl, List.getElem_mem hk, D1.out⟩
end Go.Proofs.Ytkmklafjcjkpdaa
