/- Draws of backoffs: any backoff, and the laws' draws. -/
import Derived.Test.YtkmklafjcjkpdaaBkD
namespace Go.Proofs.Ytkmklafjcjkpdaa
open Go.RowKit
set_option linter.unusedVariables false
set_option linter.unusedSimpArgs false
def BD (z : Int) : Prop := -1 ≤ z ∧ z ≤ 1000000000002
def BDs (a m x b wd wt il rt dr : Int) : Prop := BD a ∧ BD m ∧ BD x ∧ BD b ∧ BD wd ∧ BD wt ∧ BD il ∧ BD rt ∧ BD dr
theorem Bd.bd {z : Int} (h : Bd z) : BD z := ⟨h.1, by have := h.2; omega⟩
theorem Bds.bds {a m x b wd wt il rt dr : Int} (h : Bds a m x b wd wt il rt dr) : BDs a m x b wd wt il rt dr := by
  obtain ⟨h1, h2, h3, h4, h5, h6, h7, h8, h9⟩ := h
  exact ⟨h1.bd, h2.bd, h3.bd, h4.bd, h5.bd, h6.bd, h7.bd, h8.bd, h9.bd⟩
set_option maxHeartbeats 2000000 in
theorem sAny15 (w : World) (b : Nat) (hC : Cur w b) :
    Calls Try.prog 91 #[.pointer (some ⟨b, 0, none⟩)] w fun e w' => ∃ a m x bb wd wt il rt dr : Int, e = .returned (.agg #[.int .i64 a, .int .i64 m, .int .i64 x, .int .i64 bb, .int .i64 wd, .int .i64 wt, .int .i64 il, .int .i64 rt, .int .i64 dr]) ∧ BDs a m x bb wd wt il rt dr ∧ Drawn w w' b := by
  have hlt := hC.lt
  have D0 := Lib.hid (Drawn.of_ext hC (Ext.alloc_ w (.cells #[.int .i64 0, .int .i64 0, .int .i64 0, .int .i64 0, .int .i64 0, .int .i64 0, .int .i64 0, .int .i64 0, .int .i64 0] 27)))
  have bR := Lib.hid (new_blk1 w #[.int .i64 0, .int .i64 0, .int .i64 0, .int .i64 0, .int .i64 0, .int .i64 0, .int .i64 0, .int .i64 0, .int .i64 0] 27)
  have hneR : w.heap.size ≠ b := by omega
  clear hC
  go_enter Try.func91, Try.ntmps91
  go_wp2_with fail
  refine (sBackoff _ _ D0.out.2).mono ?_
  rintro e w1 ⟨a, m, x, bb, wd, wt, il, rt, dr, rfl, hB, hD⟩
  have HB := Lib.hid hB.bds
  have HC := Lib.hid hB
  have e1 := Ext.alloc_ w1 (.cells #[.int .i64 a, .int .i64 m, .int .i64 x, .int .i64 bb, .int .i64 wd, .int .i64 wt, .int .i64 il, .int .i64 rt, .int .i64 dr] 27)
  have D1 := Lib.hid ((D0.out.trans hD).ext e1)
  have bR1 := Lib.hid (ext_blk e1 (hD.blk bR.out hneR))
  have b1 := Lib.hid (new_blk1 w1 #[.int .i64 a, .int .i64 m, .int .i64 x, .int .i64 bb, .int .i64 wd, .int .i64 wt, .int .i64 il, .int .i64 rt, .int .i64 dr] 27)
  have hRg : w.heap.size < w1.heap.size := by have := heap_lt (hD.blk bR.out hneR); omega
  have hgb : b < w1.heap.size := hD.2.lt
  clear hD D0 bR e1 hB
  go_wp2_with fail
  refine (sBelow _ _ _ D1.out.2 (by decide)).mono ?_
  rintro e w4 ⟨k, rfl, hk, hD⟩
  have D4 := Lib.hid (D1.out.trans hD)
  have bR4 := Lib.hid (hD.blk bR1.out hneR)
  have b4 := Lib.hid (hD.blk b1.out (by omega))
  generalize w1.heap.size = g at *
  clear hD D1 bR1 b1
  obtain ⟨x1, x2, x3⟩ := blk_cells b4.out
  have p0 := x1 0
  have p1 := x1 1
  have p2 := x1 2
  have p3 := x1 3
  have p4 := x1 4
  have p5 := x1 5
  have p6 := x1 6
  have p7 := x1 7
  have p8 := x1 8
  simp at p0 p1 p2 p3 p4 p5 p6 p7 p8
  clear x1
  obtain ⟨y1, y2, y3⟩ := blk_cells bR4.out
  have q0 := y1 0
  have q1 := y1 1
  have q2 := y1 2
  have q3 := y1 3
  have q4 := y1 4
  have q5 := y1 5
  have q6 := y1 6
  have q7 := y1 7
  have q8 := y1 8
  simp at q0 q1 q2 q3 q4 q5 q6 q7 q8
  clear y1
  by_cases k0 : k = 0
  · subst k0
    clear p0 p1 p2 p3 p4 p5 p6 p7 p8 x2 x3
    clear q0 q1 q2 q3 q4 q5 q6 q7 q8 y2 y3
    go_wp2_with fail
    refine (sParams _ _ D4.out.2).mono ?_
    rintro e w5 ⟨a', m', x', bb', rfl, hq, hD⟩
    have D5 := Lib.hid (D4.out.trans hD)
    have b5 := Lib.hid (hD.blk b4.out (by omega))
    have bR5 := Lib.hid (hD.blk bR4.out hneR)
    clear hD D4 b4 bR4
    obtain ⟨x1, x2, x3⟩ := blk_cells b5.out
    have p0 := x1 0
    have p1 := x1 1
    have p2 := x1 2
    have p3 := x1 3
    have p4 := x1 4
    have p5 := x1 5
    have p6 := x1 6
    have p7 := x1 7
    have p8 := x1 8
    simp at p0 p1 p2 p3 p4 p5 p6 p7 p8
    clear x1
    obtain ⟨y1, y2, y3⟩ := blk_cells bR5.out
    have q0 := y1 0
    have q1 := y1 1
    have q2 := y1 2
    have q3 := y1 3
    have q4 := y1 4
    have q5 := y1 5
    have q6 := y1 6
    have q7 := y1 7
    have q8 := y1 8
    simp at q0 q1 q2 q3 q4 q5 q6 q7 q8
    clear y1
    go_wp2_with fail
    refine bodyPost_ret (v := .agg #[.int .i64 (a'), .int .i64 (m'), .int .i64 (x'), .int .i64 (bb'), .int .i64 (wd), .int .i64 (wt), .int .i64 (il), .int .i64 (rt), .int .i64 (dr)]) (by clear D5 b5 bR5 HB HC; simp [results, Try.results91, go_sem, *]) rfl ⟨a', m', x', bb', wd, wt, il, rt, dr, rfl, ?_, ?_⟩
    · obtain ⟨h1, h2, h3, h4, h5, h6, h7, h8, h9⟩ := HB.out
      exact ⟨⟨by omega, by omega⟩, ⟨by omega, by omega⟩, ⟨by omega, by omega⟩, ⟨by omega, by omega⟩, h5, h6, h7, h8, h9⟩
    · iterate 13 refine Drawn.set_ ?_ (by simp <;> omega) (by simp <;> omega) _
      exact D5.out
  by_cases k1 : k = 1
  · subst k1
    have hL := Lib.hid (cel_lit w4 3 #[.int .i64 0, .int .i64 6, .int .i64 7, .int .i64 15, .int .i64 1023, .int .i64 2047])
    go_wp2_with fail
    refine (sOneOf _ _ _ _ _ [0, 6, 7, 15, 1023, 2047] (D4.out.2.ext (Ext.alloc_ _ _)) rfl (by simp) hL.out (fun b' o h => by injection h with h; injection h with h; have := D4.out.2.lt; omega)).mono ?_
    rintro e w5 ⟨z, rfl, hz, hD⟩
    have D5 := Lib.hid (D4.out.trans (Drawn.trans (Drawn.of_ext D4.out.2 (Ext.alloc_ w4 _)) hD))
    have b5 := Lib.hid (hD.blk (ext_blk (Ext.alloc_ w4 _) b4.out) (by omega))
    have bR5 := Lib.hid (hD.blk (ext_blk (Ext.alloc_ w4 _) bR4.out) hneR)
    have hzz : BD z := by simp at hz; exact ⟨by omega, by omega⟩
    clear p0 p1 p2 p3 p4 p5 p6 p7 p8 x2 x3
    clear q0 q1 q2 q3 q4 q5 q6 q7 q8 y2 y3
    clear hD D4 b4 bR4 hz hL
    obtain ⟨x1, x2, x3⟩ := blk_cells b5.out
    have p0 := x1 0
    have p1 := x1 1
    have p2 := x1 2
    have p3 := x1 3
    have p4 := x1 4
    have p5 := x1 5
    have p6 := x1 6
    have p7 := x1 7
    have p8 := x1 8
    simp at p0 p1 p2 p3 p4 p5 p6 p7 p8
    clear x1
    obtain ⟨y1, y2, y3⟩ := blk_cells bR5.out
    have q0 := y1 0
    have q1 := y1 1
    have q2 := y1 2
    have q3 := y1 3
    have q4 := y1 4
    have q5 := y1 5
    have q6 := y1 6
    have q7 := y1 7
    have q8 := y1 8
    simp at q0 q1 q2 q3 q4 q5 q6 q7 q8
    clear y1
    go_wp2_with fail
    refine bodyPost_ret (v := .agg #[.int .i64 (a), .int .i64 (m), .int .i64 (x), .int .i64 (bb), .int .i64 (z), .int .i64 (wt), .int .i64 (il), .int .i64 (rt), .int .i64 (dr)]) (by clear D5 b5 bR5 HB HC; simp [results, Try.results91, go_sem, *]) rfl ⟨a, m, x, bb, z, wt, il, rt, dr, rfl, ?_, ?_⟩
    · obtain ⟨h1, h2, h3, h4, h5, h6, h7, h8, h9⟩ := HB.out
      exact ⟨h1, h2, h3, h4, hzz, h6, h7, h8, h9⟩
    · iterate 10 refine Drawn.set_ ?_ (by simp <;> omega) (by simp <;> omega) _
      exact D5.out
  by_cases k2 : k = 2
  · subst k2
    have hz1 : -1 ≤ wd ∧ wd ≤ 1000000000001 := by have h := HC.out; exact h.2.2.2.2.1
    have hwr : IntKind.i64.wrap (wd + 1) = wd + 1 := IntWalk.i64_in _ (by omega)
    have hL := Lib.hid (cel_lit w4 3 #[.int .i64 (-1), .int .i64 0, .int .i64 (wd), .int .i64 (wd + 1)])
    go_wp2_with fail
    refine (sOneOf _ _ _ _ _ [-1, 0, wd, wd + 1] (D4.out.2.ext (Ext.alloc_ _ _)) rfl (by simp) hL.out (fun b' o h => by injection h with h; injection h with h; have := D4.out.2.lt; omega)).mono ?_
    rintro e w5 ⟨z, rfl, hz, hD⟩
    have D5 := Lib.hid (D4.out.trans (Drawn.trans (Drawn.of_ext D4.out.2 (Ext.alloc_ w4 _)) hD))
    have b5 := Lib.hid (hD.blk (ext_blk (Ext.alloc_ w4 _) b4.out) (by omega))
    have bR5 := Lib.hid (hD.blk (ext_blk (Ext.alloc_ w4 _) bR4.out) hneR)
    have hzz : BD z := by have hwd := hz1; simp at hz; exact ⟨by omega, by omega⟩
    clear p0 p1 p2 p3 p4 p5 p6 p7 p8 x2 x3
    clear q0 q1 q2 q3 q4 q5 q6 q7 q8 y2 y3
    clear hD D4 b4 bR4 hz hL
    obtain ⟨x1, x2, x3⟩ := blk_cells b5.out
    have p0 := x1 0
    have p1 := x1 1
    have p2 := x1 2
    have p3 := x1 3
    have p4 := x1 4
    have p5 := x1 5
    have p6 := x1 6
    have p7 := x1 7
    have p8 := x1 8
    simp at p0 p1 p2 p3 p4 p5 p6 p7 p8
    clear x1
    obtain ⟨y1, y2, y3⟩ := blk_cells bR5.out
    have q0 := y1 0
    have q1 := y1 1
    have q2 := y1 2
    have q3 := y1 3
    have q4 := y1 4
    have q5 := y1 5
    have q6 := y1 6
    have q7 := y1 7
    have q8 := y1 8
    simp at q0 q1 q2 q3 q4 q5 q6 q7 q8
    clear y1
    go_wp2_with fail
    refine bodyPost_ret (v := .agg #[.int .i64 (a), .int .i64 (m), .int .i64 (x), .int .i64 (bb), .int .i64 (wd), .int .i64 (z), .int .i64 (il), .int .i64 (rt), .int .i64 (dr)]) (by clear D5 b5 bR5 HB HC; simp [results, Try.results91, go_sem, *]) rfl ⟨a, m, x, bb, wd, z, il, rt, dr, rfl, ?_, ?_⟩
    · obtain ⟨h1, h2, h3, h4, h5, h6, h7, h8, h9⟩ := HB.out
      exact ⟨h1, h2, h3, h4, h5, hzz, h7, h8, h9⟩
    · iterate 10 refine Drawn.set_ ?_ (by simp <;> omega) (by simp <;> omega) _
      exact D5.out
  by_cases k3 : k = 3
  · subst k3
    have hz1 : -1 ≤ a ∧ a ≤ 1000000000001 := by have h := HC.out; exact h.1
    have hwr : IntKind.i64.wrap (a + 1) = a + 1 := IntWalk.i64_in _ (by omega)
    have hL := Lib.hid (cel_lit w4 3 #[.int .i64 (-1), .int .i64 (a), .int .i64 (a + 1)])
    go_wp2_with fail
    refine (sOneOf _ _ _ _ _ [-1, a, a + 1] (D4.out.2.ext (Ext.alloc_ _ _)) rfl (by simp) hL.out (fun b' o h => by injection h with h; injection h with h; have := D4.out.2.lt; omega)).mono ?_
    rintro e w5 ⟨z, rfl, hz, hD⟩
    have D5 := Lib.hid (D4.out.trans (Drawn.trans (Drawn.of_ext D4.out.2 (Ext.alloc_ w4 _)) hD))
    have b5 := Lib.hid (hD.blk (ext_blk (Ext.alloc_ w4 _) b4.out) (by omega))
    have bR5 := Lib.hid (hD.blk (ext_blk (Ext.alloc_ w4 _) bR4.out) hneR)
    have hzz : BD z := by have hwd := hz1; simp at hz; exact ⟨by omega, by omega⟩
    clear p0 p1 p2 p3 p4 p5 p6 p7 p8 x2 x3
    clear q0 q1 q2 q3 q4 q5 q6 q7 q8 y2 y3
    clear hD D4 b4 bR4 hz hL
    obtain ⟨x1, x2, x3⟩ := blk_cells b5.out
    have p0 := x1 0
    have p1 := x1 1
    have p2 := x1 2
    have p3 := x1 3
    have p4 := x1 4
    have p5 := x1 5
    have p6 := x1 6
    have p7 := x1 7
    have p8 := x1 8
    simp at p0 p1 p2 p3 p4 p5 p6 p7 p8
    clear x1
    obtain ⟨y1, y2, y3⟩ := blk_cells bR5.out
    have q0 := y1 0
    have q1 := y1 1
    have q2 := y1 2
    have q3 := y1 3
    have q4 := y1 4
    have q5 := y1 5
    have q6 := y1 6
    have q7 := y1 7
    have q8 := y1 8
    simp at q0 q1 q2 q3 q4 q5 q6 q7 q8
    clear y1
    go_wp2_with fail
    refine bodyPost_ret (v := .agg #[.int .i64 (a), .int .i64 (m), .int .i64 (x), .int .i64 (bb), .int .i64 (wd), .int .i64 (wt), .int .i64 (z), .int .i64 (rt), .int .i64 (dr)]) (by clear D5 b5 bR5 HB HC; simp [results, Try.results91, go_sem, *]) rfl ⟨a, m, x, bb, wd, wt, z, rt, dr, rfl, ?_, ?_⟩
    · obtain ⟨h1, h2, h3, h4, h5, h6, h7, h8, h9⟩ := HB.out
      exact ⟨h1, h2, h3, h4, h5, h6, hzz, h8, h9⟩
    · iterate 10 refine Drawn.set_ ?_ (by simp <;> omega) (by simp <;> omega) _
      exact D5.out
  by_cases k4 : k = 4
  · subst k4
    have hL := Lib.hid (cel_lit w4 3 #[.int .i64 (-1), .int .i64 7, .int .i64 8])
    go_wp2_with fail
    refine (sOneOf _ _ _ _ _ [-1, 7, 8] (D4.out.2.ext (Ext.alloc_ _ _)) rfl (by simp) hL.out (fun b' o h => by injection h with h; injection h with h; have := D4.out.2.lt; omega)).mono ?_
    rintro e w5 ⟨z, rfl, hz, hD⟩
    have D5 := Lib.hid (D4.out.trans (Drawn.trans (Drawn.of_ext D4.out.2 (Ext.alloc_ w4 _)) hD))
    have b5 := Lib.hid (hD.blk (ext_blk (Ext.alloc_ w4 _) b4.out) (by omega))
    have bR5 := Lib.hid (hD.blk (ext_blk (Ext.alloc_ w4 _) bR4.out) hneR)
    have hzz : BD z := by simp at hz; exact ⟨by omega, by omega⟩
    clear p0 p1 p2 p3 p4 p5 p6 p7 p8 x2 x3
    clear q0 q1 q2 q3 q4 q5 q6 q7 q8 y2 y3
    clear hD D4 b4 bR4 hz hL
    obtain ⟨x1, x2, x3⟩ := blk_cells b5.out
    have p0 := x1 0
    have p1 := x1 1
    have p2 := x1 2
    have p3 := x1 3
    have p4 := x1 4
    have p5 := x1 5
    have p6 := x1 6
    have p7 := x1 7
    have p8 := x1 8
    simp at p0 p1 p2 p3 p4 p5 p6 p7 p8
    clear x1
    obtain ⟨y1, y2, y3⟩ := blk_cells bR5.out
    have q0 := y1 0
    have q1 := y1 1
    have q2 := y1 2
    have q3 := y1 3
    have q4 := y1 4
    have q5 := y1 5
    have q6 := y1 6
    have q7 := y1 7
    have q8 := y1 8
    simp at q0 q1 q2 q3 q4 q5 q6 q7 q8
    clear y1
    go_wp2_with fail
    refine bodyPost_ret (v := .agg #[.int .i64 (a), .int .i64 (m), .int .i64 (x), .int .i64 (bb), .int .i64 (wd), .int .i64 (wt), .int .i64 (il), .int .i64 (z), .int .i64 (dr)]) (by clear D5 b5 bR5 HB HC; simp [results, Try.results91, go_sem, *]) rfl ⟨a, m, x, bb, wd, wt, il, z, dr, rfl, ?_, ?_⟩
    · obtain ⟨h1, h2, h3, h4, h5, h6, h7, h8, h9⟩ := HB.out
      exact ⟨h1, h2, h3, h4, h5, h6, h7, hzz, h9⟩
    · iterate 10 refine Drawn.set_ ?_ (by simp <;> omega) (by simp <;> omega) _
      exact D5.out
  by_cases k5 : k = 5
  · subst k5
    have hL := Lib.hid (cel_lit w4 3 #[.int .i64 (-1), .int .i64 1000000000000, .int .i64 1000000000001])
    go_wp2_with fail
    refine (sOneOf _ _ _ _ _ [-1, 1000000000000, 1000000000001] (D4.out.2.ext (Ext.alloc_ _ _)) rfl (by simp) hL.out (fun b' o h => by injection h with h; injection h with h; have := D4.out.2.lt; omega)).mono ?_
    rintro e w5 ⟨z, rfl, hz, hD⟩
    have D5 := Lib.hid (D4.out.trans (Drawn.trans (Drawn.of_ext D4.out.2 (Ext.alloc_ w4 _)) hD))
    have b5 := Lib.hid (hD.blk (ext_blk (Ext.alloc_ w4 _) b4.out) (by omega))
    have bR5 := Lib.hid (hD.blk (ext_blk (Ext.alloc_ w4 _) bR4.out) hneR)
    have hzz : BD z := by simp at hz; exact ⟨by omega, by omega⟩
    clear p0 p1 p2 p3 p4 p5 p6 p7 p8 x2 x3
    clear q0 q1 q2 q3 q4 q5 q6 q7 q8 y2 y3
    clear hD D4 b4 bR4 hz hL
    obtain ⟨x1, x2, x3⟩ := blk_cells b5.out
    have p0 := x1 0
    have p1 := x1 1
    have p2 := x1 2
    have p3 := x1 3
    have p4 := x1 4
    have p5 := x1 5
    have p6 := x1 6
    have p7 := x1 7
    have p8 := x1 8
    simp at p0 p1 p2 p3 p4 p5 p6 p7 p8
    clear x1
    obtain ⟨y1, y2, y3⟩ := blk_cells bR5.out
    have q0 := y1 0
    have q1 := y1 1
    have q2 := y1 2
    have q3 := y1 3
    have q4 := y1 4
    have q5 := y1 5
    have q6 := y1 6
    have q7 := y1 7
    have q8 := y1 8
    simp at q0 q1 q2 q3 q4 q5 q6 q7 q8
    clear y1
    go_wp2_with fail
    refine bodyPost_ret (v := .agg #[.int .i64 (a), .int .i64 (m), .int .i64 (x), .int .i64 (bb), .int .i64 (wd), .int .i64 (wt), .int .i64 (il), .int .i64 (rt), .int .i64 (z)]) (by clear D5 b5 bR5 HB HC; simp [results, Try.results91, go_sem, *]) rfl ⟨a, m, x, bb, wd, wt, il, rt, z, rfl, ?_, ?_⟩
    · obtain ⟨h1, h2, h3, h4, h5, h6, h7, h8, h9⟩ := HB.out
      exact ⟨h1, h2, h3, h4, h5, h6, h7, h8, hzz⟩
    · iterate 10 refine Drawn.set_ ?_ (by simp <;> omega) (by simp <;> omega) _
      exact D5.out
  go_wp2_with fail
  refine bodyPost_ret (v := .agg #[.int .i64 (a), .int .i64 (m), .int .i64 (x), .int .i64 (bb), .int .i64 (wd), .int .i64 (wt), .int .i64 (il), .int .i64 (rt), .int .i64 (dr)]) (by clear D4 b4 bR4 HB HC; simp [results, Try.results91, go_sem, *]) rfl ⟨_, _, _, _, _, _, _, _, _, rfl, HB.out, ?_⟩
  iterate 9 refine Drawn.set_ ?_ (by simp <;> omega) (by simp <;> omega) _
  exact D4.out
set_option maxHeartbeats 1000000 in
theorem sDrawBk (w : World) (A : Option Addr) (n c : Nat) (l : List Int) (hn : l.length = n) (hr : RB w A c l) (hb : ∀ x ∈ l, 0 ≤ x ∧ x ≤ 255) (hl : n ≤ 1048576) :
    Calls Try.prog 14 #[.slice A n c] w fun e w' => ∃ a m x bb wd wt il rt dr : Int, e = .returned (.agg #[.int .i64 a, .int .i64 m, .int .i64 x, .int .i64 bb, .int .i64 wd, .int .i64 wt, .int .i64 il, .int .i64 rt, .int .i64 dr]) ∧ BDs a m x bb wd wt il rt dr ∧ Ext w w' := by
  have eR := Ext.alloc_ w (.cells #[.int .i64 0, .int .i64 0, .int .i64 0, .int .i64 0, .int .i64 0, .int .i64 0, .int .i64 0, .int .i64 0, .int .i64 0] 27)
  have R1 := Lib.hid (hr.ext eR)
  have ER := Lib.hid eR
  have bR := Lib.hid (new_blk1 w #[.int .i64 0, .int .i64 0, .int .i64 0, .int .i64 0, .int .i64 0, .int .i64 0, .int .i64 0, .int .i64 0, .int .i64 0] 27)
  clear eR hr
  go_enter Try.func14, Try.ntmps14
  go_wp2_with fail
  refine (sNew _ _ _ _ l hn R1.out hb hl).mono ?_
  rintro e w1 ⟨b, rfl, h1, h2, h3⟩
  have E1 := Lib.hid (Ext.trans ER.out h1)
  have C1 := Lib.hid h3
  have bR1 := Lib.hid (ext_blk h1 bR.out)
  have hbw : w.heap.size + 1 ≤ b := by simpa using h2
  clear h1 h2 h3 hn hb R1
  go_wp2_with fail
  refine (sAny15 _ _ C1.out).mono ?_
  rintro e w2 ⟨a, m, x, bb, wd, wt, il, rt, dr, rfl, hB, hD⟩
  have HB := Lib.hid hB
  have D2 := Lib.hid hD
  have bR2 := Lib.hid (hD.blk bR1.out (by omega))
  clear hD hB bR1
  obtain ⟨y1, y2, y3⟩ := blk_cells bR2.out
  have q0 := y1 0
  have q1 := y1 1
  have q2 := y1 2
  have q3 := y1 3
  have q4 := y1 4
  have q5 := y1 5
  have q6 := y1 6
  have q7 := y1 7
  have q8 := y1 8
  simp at q0 q1 q2 q3 q4 q5 q6 q7 q8
  clear y1
  go_wp2_with fail
  refine bodyPost_ret (v := .agg #[.int .i64 a, .int .i64 m, .int .i64 x, .int .i64 bb, .int .i64 wd, .int .i64 wt, .int .i64 il, .int .i64 rt, .int .i64 dr]) (by clear D2 bR2 C1 E1 bR ER HB; simp [results, Try.results14, go_sem, *]) rfl ⟨_, _, _, _, _, _, _, _, _, rfl, HB.out, ?_⟩
  iterate 9 refine Ext.setCell_ ?_ (by simp <;> omega) _
  exact D2.out.1.ext E1.out (fun x hx => by omega)
end Go.Proofs.Ytkmklafjcjkpdaa
