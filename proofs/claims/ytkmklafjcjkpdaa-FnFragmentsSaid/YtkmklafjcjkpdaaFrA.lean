/- Draws of medium access frames: any frame. -/
import Derived.Test.YtkmklafjcjkpdaaFrD
namespace Go.Proofs.Ytkmklafjcjkpdaa
open Go.RowKit
set_option linter.unusedVariables false
set_option linter.unusedSimpArgs false
theorem NewB.set_ne {w : World} {B g : Nat} {A : Option Addr} {c : Nat} {l : List Int} (h : NewB w B g A c l) {p : Addr} (hp : l ≠ [] → g ≠ p.block) (u : Value) : NewB (w.setCell p u) B g A c l := by
  obtain ⟨h1, h2, h3, h4⟩ := h
  refine ⟨h1, h2, h3, ?_⟩
  by_cases h0 : l = []
  · exact .inl h0
  · obtain ⟨a, b, cs, T, d, e⟩ := h4.resolve_left h0
    exact .inr ⟨a, by simpa using b, cs, T, by rw [Below.heap_setCell _ _ _ _ (hp h0)]; exact d, e⟩
theorem newB_alloc {W : World} {s : Nat} {l : List Int} {T : TypeId} (hs : W.heap.size = s) : NewB (W.alloc (.cells (l.map (Value.int .u8)).toArray T)) s s (some ⟨s, 0, none⟩) l.length l :=
  NewB.of_blk (Nat.le_refl _) (by have h := new_blk1 W (l.map (Value.int .u8)).toArray T; rwa [hs] at h)
set_option maxHeartbeats 4000000 in
theorem sAny12 (w : World) (b : Nat) (hC : Cur w b) :
    Calls Try.prog 126 #[.pointer (some ⟨b, 0, none⟩)] w fun e w' => ∃ (kd fm to sq fr : Int) (mo re : Bool) (du : Int) (g : Nat) (A : Option Addr) (c : Nat) (l : List Int), e = .returned (.agg #[.int .i64 kd, .int .i64 fm, .int .i64 (to), .int .i64 sq, .int .i64 fr, .bool mo, .bool re, .int .i64 du, .slice A l.length c]) ∧ FB kd fm to sq fr du ∧ (∀ x ∈ l, 0 ≤ x ∧ x ≤ 255) ∧ l.length ≤ 101 ∧ NewB w' w.heap.size g A c l ∧ Drawn w w' b := by
  have hlt := hC.lt
  have D0 := Lib.hid (Drawn.of_ext hC (Ext.alloc_ w (.cells #[.int .i64 0, .int .i64 0, .int .i64 0, .int .i64 0, .int .i64 0, .bool false, .bool false, .int .i64 0, .slice none 0 0] 66)))
  have bR0 := Lib.hid (new_blk1 w #[.int .i64 0, .int .i64 0, .int .i64 0, .int .i64 0, .int .i64 0, .bool false, .bool false, .int .i64 0, .slice none 0 0] 66)
  have hneR : w.heap.size ≠ b := by omega
  clear hC
  go_enter Try.func126, Try.ntmps126
  go_wp2_with fail
  refine (sFrame _ _ D0.out.2).mono ?_
  rintro e w1 ⟨kd, fm, to, sq, fr, mo, re, du, g, A, c, l, rfl, hF, hb, hl, hN, hD⟩
  have HF := Lib.hid hF
  have HB := Lib.hid hb
  simp only [World.size_alloc] at hN
  have e1 := Ext.alloc_ w1 (.cells #[.int .i64 kd, .int .i64 fm, .int .i64 (to), .int .i64 sq, .int .i64 fr, .bool mo, .bool re, .int .i64 du, .slice A l.length c] 66)
  have D1 := Lib.hid ((D0.out.trans hD).ext e1)
  have bR1 := Lib.hid (ext_blk e1 (hD.blk bR0.out hneR))
  have b1 := Lib.hid (new_blk1 w1 #[.int .i64 kd, .int .i64 fm, .int .i64 (to), .int .i64 sq, .int .i64 fr, .bool mo, .bool re, .int .i64 du, .slice A l.length c] 66)
  have N1 := Lib.hid (hN.ext e1)
  have hRg : w.heap.size < w1.heap.size := heap_lt (hD.blk bR0.out hneR)
  have hgb : b < w1.heap.size := hD.2.lt
  have hgl : l = [] ∨ g < w1.heap.size := hN.2.2.2.imp_right (fun h => h.2.1)
  clear hD D0 bR0 e1 hF hb hN
  go_wp2_with fail
  refine (sBelow _ _ _ D1.out.2 (by decide)).mono ?_
  rintro e w4 ⟨k, rfl, hk, hD⟩
  have D4 := Lib.hid (D1.out.trans hD)
  have bR4 := Lib.hid (hD.blk bR1.out hneR)
  have b4 := Lib.hid (hD.blk b1.out (by omega))
  have N4 := Lib.hid (N1.out.chg hD.1 (fun y hy => by omega))
  generalize w1.heap.size = g3 at *
  clear hD D1 bR1 b1 N1
  obtain ⟨x1, x2, x3⟩ := blk_cells b4.out
  have p0 := x1 0
  have p1 := x1 1
  have p2 := x1 2
  have p3 := x1 3
  have p4 := x1 4
  have p5 := x1 5
  have p6 := x1 6
  have p7 := x1 7
  have p8 := x1 8
  simp at p0 p1 p2 p3 p4 p5 p6 p7 p8
  clear x1
  obtain ⟨y1, y2, y3⟩ := blk_cells bR4.out
  have q0 := y1 0
  have q1 := y1 1
  have q2 := y1 2
  have q3 := y1 3
  have q4 := y1 4
  have q5 := y1 5
  have q6 := y1 6
  have q7 := y1 7
  have q8 := y1 8
  simp at q0 q1 q2 q3 q4 q5 q6 q7 q8
  clear y1
  by_cases k0 : k = 0
  · subst k0
    have hL := Lib.hid (cel_lit w4 3 #[.int .i64 0, .int .i64 8])
    go_wp2_with fail
    refine (sOneOf _ _ _ _ _ [0, 8] (D4.out.2.ext (Ext.alloc_ _ _)) rfl (by simp) hL.out (fun b' o h => by injection h with h; injection h with h; have := D4.out.2.lt; omega)).mono ?_
    rintro e w5 ⟨z, rfl, hz, hD⟩
    have D5 := Lib.hid (D4.out.trans (Drawn.trans (Drawn.of_ext D4.out.2 (Ext.alloc_ w4 _)) hD))
    have b5 := Lib.hid (hD.blk (ext_blk (Ext.alloc_ w4 _) b4.out) (by omega))
    have bR5 := Lib.hid (hD.blk (ext_blk (Ext.alloc_ w4 _) bR4.out) hneR)
    have N5 := Lib.hid ((N4.out.ext (Ext.alloc_ w4 _)).chg hD.1 (fun y hy => by omega))
    have hzz : FI z := by have hto := HF.out.2.2.1; unfold FI at hto ⊢; simp at hz; omega
    clear p0 p1 p2 p3 p4 p5 p6 p7 p8 x2 x3
    clear q0 q1 q2 q3 q4 q5 q6 q7 q8 y2 y3
    clear hD D4 b4 bR4 hz hL N4
    obtain ⟨x1, x2, x3⟩ := blk_cells b5.out
    have p0 := x1 0
    have p1 := x1 1
    have p2 := x1 2
    have p3 := x1 3
    have p4 := x1 4
    have p5 := x1 5
    have p6 := x1 6
    have p7 := x1 7
    have p8 := x1 8
    simp at p0 p1 p2 p3 p4 p5 p6 p7 p8
    clear x1
    obtain ⟨y1, y2, y3⟩ := blk_cells bR5.out
    have q0 := y1 0
    have q1 := y1 1
    have q2 := y1 2
    have q3 := y1 3
    have q4 := y1 4
    have q5 := y1 5
    have q6 := y1 6
    have q7 := y1 7
    have q8 := y1 8
    simp at q0 q1 q2 q3 q4 q5 q6 q7 q8
    clear y1
    go_wp2_with fail
    refine bodyPost_ret (v := .agg #[.int .i64 (z), .int .i64 (fm), .int .i64 (to), .int .i64 (sq), .int .i64 (fr), .bool mo, .bool re, .int .i64 (du), .slice A l.length c]) (by clear D5 b5 bR5 HB HF N5; simp [results, Try.results126, go_sem, *]) rfl ⟨z, fm, to, sq, fr, mo, re, du, g, A, c, l, rfl, ?_, HB.out, hl, ?_, ?_⟩
    · obtain ⟨h1, h2, h3, h4, h5, h6⟩ := HF.out
      exact ⟨hzz, h2, h3, h4, h5, h6⟩
    · refine NewB.mono (B := w.heap.size + 1) ?_ (by omega)
      iterate 9 refine NewB.set_ ?_ (by simp <;> omega) _
      refine NewB.set_ne N5.out (fun h0 => ?_) _
      simp
      have := hgl.resolve_left h0
      omega
    · iterate 10 refine Drawn.set_ ?_ (by simp <;> omega) (by simp <;> omega) _
      exact D5.out
  by_cases k1 : k = 1
  · subst k1
    have hL := Lib.hid (cel_lit w4 3 #[.int .i64 (-1), .int .i64 15, .int .i64 16, .int .i64 (to)])
    go_wp2_with fail
    refine (sOneOf _ _ _ _ _ [-1, 15, 16, to] (D4.out.2.ext (Ext.alloc_ _ _)) rfl (by simp) hL.out (fun b' o h => by injection h with h; injection h with h; have := D4.out.2.lt; omega)).mono ?_
    rintro e w5 ⟨z, rfl, hz, hD⟩
    have D5 := Lib.hid (D4.out.trans (Drawn.trans (Drawn.of_ext D4.out.2 (Ext.alloc_ w4 _)) hD))
    have b5 := Lib.hid (hD.blk (ext_blk (Ext.alloc_ w4 _) b4.out) (by omega))
    have bR5 := Lib.hid (hD.blk (ext_blk (Ext.alloc_ w4 _) bR4.out) hneR)
    have N5 := Lib.hid ((N4.out.ext (Ext.alloc_ w4 _)).chg hD.1 (fun y hy => by omega))
    have hzz : FI z := by have hto := HF.out.2.2.1; unfold FI at hto ⊢; simp at hz; omega
    clear p0 p1 p2 p3 p4 p5 p6 p7 p8 x2 x3
    clear q0 q1 q2 q3 q4 q5 q6 q7 q8 y2 y3
    clear hD D4 b4 bR4 hz hL N4
    obtain ⟨x1, x2, x3⟩ := blk_cells b5.out
    have p0 := x1 0
    have p1 := x1 1
    have p2 := x1 2
    have p3 := x1 3
    have p4 := x1 4
    have p5 := x1 5
    have p6 := x1 6
    have p7 := x1 7
    have p8 := x1 8
    simp at p0 p1 p2 p3 p4 p5 p6 p7 p8
    clear x1
    obtain ⟨y1, y2, y3⟩ := blk_cells bR5.out
    have q0 := y1 0
    have q1 := y1 1
    have q2 := y1 2
    have q3 := y1 3
    have q4 := y1 4
    have q5 := y1 5
    have q6 := y1 6
    have q7 := y1 7
    have q8 := y1 8
    simp at q0 q1 q2 q3 q4 q5 q6 q7 q8
    clear y1
    go_wp2_with fail
    refine bodyPost_ret (v := .agg #[.int .i64 (kd), .int .i64 (z), .int .i64 (to), .int .i64 (sq), .int .i64 (fr), .bool mo, .bool re, .int .i64 (du), .slice A l.length c]) (by clear D5 b5 bR5 HB HF N5; simp [results, Try.results126, go_sem, *]) rfl ⟨kd, z, to, sq, fr, mo, re, du, g, A, c, l, rfl, ?_, HB.out, hl, ?_, ?_⟩
    · obtain ⟨h1, h2, h3, h4, h5, h6⟩ := HF.out
      exact ⟨h1, hzz, h3, h4, h5, h6⟩
    · refine NewB.mono (B := w.heap.size + 1) ?_ (by omega)
      iterate 9 refine NewB.set_ ?_ (by simp <;> omega) _
      refine NewB.set_ne N5.out (fun h0 => ?_) _
      simp
      have := hgl.resolve_left h0
      omega
    · iterate 10 refine Drawn.set_ ?_ (by simp <;> omega) (by simp <;> omega) _
      exact D5.out
  by_cases k2 : k = 2
  · subst k2
    have hL := Lib.hid (cel_lit w4 3 #[.int .i64 (-1), .int .i64 15, .int .i64 16, .int .i64 63])
    go_wp2_with fail
    refine (sOneOf _ _ _ _ _ [-1, 15, 16, 63] (D4.out.2.ext (Ext.alloc_ _ _)) rfl (by simp) hL.out (fun b' o h => by injection h with h; injection h with h; have := D4.out.2.lt; omega)).mono ?_
    rintro e w5 ⟨z, rfl, hz, hD⟩
    have D5 := Lib.hid (D4.out.trans (Drawn.trans (Drawn.of_ext D4.out.2 (Ext.alloc_ w4 _)) hD))
    have b5 := Lib.hid (hD.blk (ext_blk (Ext.alloc_ w4 _) b4.out) (by omega))
    have bR5 := Lib.hid (hD.blk (ext_blk (Ext.alloc_ w4 _) bR4.out) hneR)
    have N5 := Lib.hid ((N4.out.ext (Ext.alloc_ w4 _)).chg hD.1 (fun y hy => by omega))
    have hzz : FI z := by have hto := HF.out.2.2.1; unfold FI at hto ⊢; simp at hz; omega
    clear p0 p1 p2 p3 p4 p5 p6 p7 p8 x2 x3
    clear q0 q1 q2 q3 q4 q5 q6 q7 q8 y2 y3
    clear hD D4 b4 bR4 hz hL N4
    obtain ⟨x1, x2, x3⟩ := blk_cells b5.out
    have p0 := x1 0
    have p1 := x1 1
    have p2 := x1 2
    have p3 := x1 3
    have p4 := x1 4
    have p5 := x1 5
    have p6 := x1 6
    have p7 := x1 7
    have p8 := x1 8
    simp at p0 p1 p2 p3 p4 p5 p6 p7 p8
    clear x1
    obtain ⟨y1, y2, y3⟩ := blk_cells bR5.out
    have q0 := y1 0
    have q1 := y1 1
    have q2 := y1 2
    have q3 := y1 3
    have q4 := y1 4
    have q5 := y1 5
    have q6 := y1 6
    have q7 := y1 7
    have q8 := y1 8
    simp at q0 q1 q2 q3 q4 q5 q6 q7 q8
    clear y1
    go_wp2_with fail
    refine bodyPost_ret (v := .agg #[.int .i64 (kd), .int .i64 (fm), .int .i64 (z), .int .i64 (sq), .int .i64 (fr), .bool mo, .bool re, .int .i64 (du), .slice A l.length c]) (by clear D5 b5 bR5 HB HF N5; simp [results, Try.results126, go_sem, *]) rfl ⟨kd, fm, z, sq, fr, mo, re, du, g, A, c, l, rfl, ?_, HB.out, hl, ?_, ?_⟩
    · obtain ⟨h1, h2, h3, h4, h5, h6⟩ := HF.out
      exact ⟨h1, h2, hzz, h4, h5, h6⟩
    · refine NewB.mono (B := w.heap.size + 1) ?_ (by omega)
      iterate 9 refine NewB.set_ ?_ (by simp <;> omega) _
      refine NewB.set_ne N5.out (fun h0 => ?_) _
      simp
      have := hgl.resolve_left h0
      omega
    · iterate 10 refine Drawn.set_ ?_ (by simp <;> omega) (by simp <;> omega) _
      exact D5.out
  by_cases k3 : k = 3
  · subst k3
    have hL := Lib.hid (cel_lit w4 3 #[.int .i64 (-1), .int .i64 4095, .int .i64 4096])
    go_wp2_with fail
    refine (sOneOf _ _ _ _ _ [-1, 4095, 4096] (D4.out.2.ext (Ext.alloc_ _ _)) rfl (by simp) hL.out (fun b' o h => by injection h with h; injection h with h; have := D4.out.2.lt; omega)).mono ?_
    rintro e w5 ⟨z, rfl, hz, hD⟩
    have D5 := Lib.hid (D4.out.trans (Drawn.trans (Drawn.of_ext D4.out.2 (Ext.alloc_ w4 _)) hD))
    have b5 := Lib.hid (hD.blk (ext_blk (Ext.alloc_ w4 _) b4.out) (by omega))
    have bR5 := Lib.hid (hD.blk (ext_blk (Ext.alloc_ w4 _) bR4.out) hneR)
    have N5 := Lib.hid ((N4.out.ext (Ext.alloc_ w4 _)).chg hD.1 (fun y hy => by omega))
    have hzz : FI z := by have hto := HF.out.2.2.1; unfold FI at hto ⊢; simp at hz; omega
    clear p0 p1 p2 p3 p4 p5 p6 p7 p8 x2 x3
    clear q0 q1 q2 q3 q4 q5 q6 q7 q8 y2 y3
    clear hD D4 b4 bR4 hz hL N4
    obtain ⟨x1, x2, x3⟩ := blk_cells b5.out
    have p0 := x1 0
    have p1 := x1 1
    have p2 := x1 2
    have p3 := x1 3
    have p4 := x1 4
    have p5 := x1 5
    have p6 := x1 6
    have p7 := x1 7
    have p8 := x1 8
    simp at p0 p1 p2 p3 p4 p5 p6 p7 p8
    clear x1
    obtain ⟨y1, y2, y3⟩ := blk_cells bR5.out
    have q0 := y1 0
    have q1 := y1 1
    have q2 := y1 2
    have q3 := y1 3
    have q4 := y1 4
    have q5 := y1 5
    have q6 := y1 6
    have q7 := y1 7
    have q8 := y1 8
    simp at q0 q1 q2 q3 q4 q5 q6 q7 q8
    clear y1
    go_wp2_with fail
    refine bodyPost_ret (v := .agg #[.int .i64 (kd), .int .i64 (fm), .int .i64 (to), .int .i64 (z), .int .i64 (fr), .bool mo, .bool re, .int .i64 (du), .slice A l.length c]) (by clear D5 b5 bR5 HB HF N5; simp [results, Try.results126, go_sem, *]) rfl ⟨kd, fm, to, z, fr, mo, re, du, g, A, c, l, rfl, ?_, HB.out, hl, ?_, ?_⟩
    · obtain ⟨h1, h2, h3, h4, h5, h6⟩ := HF.out
      exact ⟨h1, h2, h3, hzz, h5, h6⟩
    · refine NewB.mono (B := w.heap.size + 1) ?_ (by omega)
      iterate 9 refine NewB.set_ ?_ (by simp <;> omega) _
      refine NewB.set_ne N5.out (fun h0 => ?_) _
      simp
      have := hgl.resolve_left h0
      omega
    · iterate 10 refine Drawn.set_ ?_ (by simp <;> omega) (by simp <;> omega) _
      exact D5.out
  by_cases k4 : k = 4
  · subst k4
    have hL := Lib.hid (cel_lit w4 3 #[.int .i64 (-1), .int .i64 15, .int .i64 16])
    go_wp2_with fail
    refine (sOneOf _ _ _ _ _ [-1, 15, 16] (D4.out.2.ext (Ext.alloc_ _ _)) rfl (by simp) hL.out (fun b' o h => by injection h with h; injection h with h; have := D4.out.2.lt; omega)).mono ?_
    rintro e w5 ⟨z, rfl, hz, hD⟩
    have D5 := Lib.hid (D4.out.trans (Drawn.trans (Drawn.of_ext D4.out.2 (Ext.alloc_ w4 _)) hD))
    have b5 := Lib.hid (hD.blk (ext_blk (Ext.alloc_ w4 _) b4.out) (by omega))
    have bR5 := Lib.hid (hD.blk (ext_blk (Ext.alloc_ w4 _) bR4.out) hneR)
    have N5 := Lib.hid ((N4.out.ext (Ext.alloc_ w4 _)).chg hD.1 (fun y hy => by omega))
    have hzz : FI z := by have hto := HF.out.2.2.1; unfold FI at hto ⊢; simp at hz; omega
    clear p0 p1 p2 p3 p4 p5 p6 p7 p8 x2 x3
    clear q0 q1 q2 q3 q4 q5 q6 q7 q8 y2 y3
    clear hD D4 b4 bR4 hz hL N4
    obtain ⟨x1, x2, x3⟩ := blk_cells b5.out
    have p0 := x1 0
    have p1 := x1 1
    have p2 := x1 2
    have p3 := x1 3
    have p4 := x1 4
    have p5 := x1 5
    have p6 := x1 6
    have p7 := x1 7
    have p8 := x1 8
    simp at p0 p1 p2 p3 p4 p5 p6 p7 p8
    clear x1
    obtain ⟨y1, y2, y3⟩ := blk_cells bR5.out
    have q0 := y1 0
    have q1 := y1 1
    have q2 := y1 2
    have q3 := y1 3
    have q4 := y1 4
    have q5 := y1 5
    have q6 := y1 6
    have q7 := y1 7
    have q8 := y1 8
    simp at q0 q1 q2 q3 q4 q5 q6 q7 q8
    clear y1
    go_wp2_with fail
    refine bodyPost_ret (v := .agg #[.int .i64 (kd), .int .i64 (fm), .int .i64 (to), .int .i64 (sq), .int .i64 (z), .bool mo, .bool re, .int .i64 (du), .slice A l.length c]) (by clear D5 b5 bR5 HB HF N5; simp [results, Try.results126, go_sem, *]) rfl ⟨kd, fm, to, sq, z, mo, re, du, g, A, c, l, rfl, ?_, HB.out, hl, ?_, ?_⟩
    · obtain ⟨h1, h2, h3, h4, h5, h6⟩ := HF.out
      exact ⟨h1, h2, h3, h4, hzz, h6⟩
    · refine NewB.mono (B := w.heap.size + 1) ?_ (by omega)
      iterate 9 refine NewB.set_ ?_ (by simp <;> omega) _
      refine NewB.set_ne N5.out (fun h0 => ?_) _
      simp
      have := hgl.resolve_left h0
      omega
    · iterate 10 refine Drawn.set_ ?_ (by simp <;> omega) (by simp <;> omega) _
      exact D5.out
  by_cases k5 : k = 5
  · subst k5
    have hL := Lib.hid (cel_lit w4 3 #[.int .i64 (-1), .int .i64 1000, .int .i64 1001])
    go_wp2_with fail
    refine (sOneOf _ _ _ _ _ [-1, 1000, 1001] (D4.out.2.ext (Ext.alloc_ _ _)) rfl (by simp) hL.out (fun b' o h => by injection h with h; injection h with h; have := D4.out.2.lt; omega)).mono ?_
    rintro e w5 ⟨z, rfl, hz, hD⟩
    have D5 := Lib.hid (D4.out.trans (Drawn.trans (Drawn.of_ext D4.out.2 (Ext.alloc_ w4 _)) hD))
    have b5 := Lib.hid (hD.blk (ext_blk (Ext.alloc_ w4 _) b4.out) (by omega))
    have bR5 := Lib.hid (hD.blk (ext_blk (Ext.alloc_ w4 _) bR4.out) hneR)
    have N5 := Lib.hid ((N4.out.ext (Ext.alloc_ w4 _)).chg hD.1 (fun y hy => by omega))
    have hzz : FI z := by have hto := HF.out.2.2.1; unfold FI at hto ⊢; simp at hz; omega
    clear p0 p1 p2 p3 p4 p5 p6 p7 p8 x2 x3
    clear q0 q1 q2 q3 q4 q5 q6 q7 q8 y2 y3
    clear hD D4 b4 bR4 hz hL N4
    obtain ⟨x1, x2, x3⟩ := blk_cells b5.out
    have p0 := x1 0
    have p1 := x1 1
    have p2 := x1 2
    have p3 := x1 3
    have p4 := x1 4
    have p5 := x1 5
    have p6 := x1 6
    have p7 := x1 7
    have p8 := x1 8
    simp at p0 p1 p2 p3 p4 p5 p6 p7 p8
    clear x1
    obtain ⟨y1, y2, y3⟩ := blk_cells bR5.out
    have q0 := y1 0
    have q1 := y1 1
    have q2 := y1 2
    have q3 := y1 3
    have q4 := y1 4
    have q5 := y1 5
    have q6 := y1 6
    have q7 := y1 7
    have q8 := y1 8
    simp at q0 q1 q2 q3 q4 q5 q6 q7 q8
    clear y1
    go_wp2_with fail
    refine bodyPost_ret (v := .agg #[.int .i64 (kd), .int .i64 (fm), .int .i64 (to), .int .i64 (sq), .int .i64 (fr), .bool mo, .bool re, .int .i64 (z), .slice A l.length c]) (by clear D5 b5 bR5 HB HF N5; simp [results, Try.results126, go_sem, *]) rfl ⟨kd, fm, to, sq, fr, mo, re, z, g, A, c, l, rfl, ?_, HB.out, hl, ?_, ?_⟩
    · obtain ⟨h1, h2, h3, h4, h5, h6⟩ := HF.out
      exact ⟨h1, h2, h3, h4, h5, hzz⟩
    · refine NewB.mono (B := w.heap.size + 1) ?_ (by omega)
      iterate 9 refine NewB.set_ ?_ (by simp <;> omega) _
      refine NewB.set_ne N5.out (fun h0 => ?_) _
      simp
      have := hgl.resolve_left h0
      omega
    · iterate 10 refine Drawn.set_ ?_ (by simp <;> omega) (by simp <;> omega) _
      exact D5.out
  by_cases k6 : k = 6
  · subst k6
    clear p0 p1 p2 p3 p4 p5 p6 p7 p8 x2 x3
    clear q0 q1 q2 q3 q4 q5 q6 q7 q8 y2 y3
    clear N4 hgl hl HB
    go_wp2_with fail
    refine (sBelow _ _ _ D4.out.2 (by decide)).mono ?_
    rintro e w5 ⟨z, rfl, hz, hD⟩
    have D5 := Lib.hid (D4.out.trans hD)
    have b5 := Lib.hid (hD.blk b4.out (by omega))
    have bR5 := Lib.hid (hD.blk bR4.out hneR)
    clear hD D4 b4 bR4
    obtain ⟨n, hn⟩ : ∃ n : Nat, (n : Int) = 100 + z := ⟨(100 + z).toNat, by omega⟩
    have hwr : IntKind.i64.wrap (100 + z) = (n : Int) := by rw [hn]; exact IntWalk.i64_in _ (by omega)
    have hmk := fun W => make_one elByte (z := .int .u8 0) (by kernel_rfl) rfl n (by omega) (by omega) W
    obtain ⟨zs, hzs⟩ : ∃ zs, zs = List.replicate n (Value.int .u8 0) := ⟨_, rfl⟩
    rw [← hzs] at hmk
    have HZ := Lib.hid (show zs = (List.replicate n (0 : Int)).map (Value.int .u8) by rw [hzs]; simp)
    have hz5 : g3 < w5.heap.size := heap_lt b5.out
    have hn1 : n ≤ 101 := by omega
    clear hzs hn hz
    obtain ⟨x1, x2, x3⟩ := blk_cells b5.out
    have p0 := x1 0
    have p1 := x1 1
    have p2 := x1 2
    have p3 := x1 3
    have p4 := x1 4
    have p5 := x1 5
    have p6 := x1 6
    have p7 := x1 7
    have p8 := x1 8
    simp at p0 p1 p2 p3 p4 p5 p6 p7 p8
    clear x1
    obtain ⟨y1, y2, y3⟩ := blk_cells bR5.out
    have q0 := y1 0
    have q1 := y1 1
    have q2 := y1 2
    have q3 := y1 3
    have q4 := y1 4
    have q5 := y1 5
    have q6 := y1 6
    have q7 := y1 7
    have q8 := y1 8
    simp at q0 q1 q2 q3 q4 q5 q6 q7 q8
    clear y1
    clear b5 bR5
    go_wp2_with fail
    refine bodyPost_ret (v := .agg #[.int .i64 kd, .int .i64 fm, .int .i64 to, .int .i64 sq, .int .i64 fr, .bool mo, .bool re, .int .i64 du, .slice (some ⟨w5.heap.size, 0, none⟩) n n]) (by clear D5 HF HZ hmk; simp [results, Try.results126, go_sem, *]) rfl ⟨kd, fm, to, sq, fr, mo, re, du, w5.heap.size, some ⟨w5.heap.size, 0, none⟩, n, List.replicate n 0, by rw [List.length_replicate], HF.out, by simp, by simpa using hn1, ?_, ?_⟩
    · refine NewB.mono (B := w5.heap.size) ?_ (by omega)
      have key : ∀ W : World, W.heap.size = w5.heap.size → NewB (W.alloc (.cells zs.toArray 5)) w5.heap.size w5.heap.size (some ⟨w5.heap.size, 0, none⟩) n (List.replicate n (0 : Int)) := by
        intro W hW
        rw [HZ.out]
        have h := newB_alloc (l := List.replicate n (0 : Int)) (T := 5) hW
        rw [List.length_replicate] at h
        exact h
      exact key _ (by simp)
    · refine Drawn.ext ?_ (Ext.alloc_ _ _)
      iterate 10 refine Drawn.set_ ?_ (by simp <;> omega) (by simp <;> omega) _
      exact D5.out
  go_wp2_with fail
  refine bodyPost_ret (v := .agg #[.int .i64 (kd), .int .i64 (fm), .int .i64 (to), .int .i64 (sq), .int .i64 (fr), .bool mo, .bool re, .int .i64 (du), .slice A l.length c]) (by clear D4 b4 bR4 HB HF N4; simp [results, Try.results126, go_sem, *]) rfl ⟨kd, fm, to, sq, fr, mo, re, du, g, A, c, l, rfl, HF.out, HB.out, hl, ?_, ?_⟩
  · refine NewB.mono (B := w.heap.size + 1) ?_ (by omega)
    iterate 9 refine NewB.set_ ?_ (by simp <;> omega) _
    exact N4.out
  · iterate 9 refine Drawn.set_ ?_ (by simp <;> omega) (by simp <;> omega) _
    exact D4.out
end Go.Proofs.Ytkmklafjcjkpdaa
