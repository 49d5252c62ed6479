/- Draws of medium access frames. -/
import Derived.Test.YtkmklafjcjkpdaaByt
namespace Go.Proofs.Ytkmklafjcjkpdaa
open Go.RowKit
set_option linter.unusedVariables false
set_option linter.unusedSimpArgs false
/-- The bounds of a drawn frame. -/
def FI (z : Int) : Prop := -1 ≤ z ∧ z ≤ 4096
def FB (kd fm to sq fr du : Int) : Prop := FI kd ∧ FI fm ∧ FI to ∧ FI sq ∧ FI fr ∧ FI du
def empB (k : Int) : Bool := k == 2 || k == 3 || k == 4 || k == 7
theorem NewB.chg {w w' : World} {B g : Nat} {A : Option Addr} {c : Nat} {l : List Int} {S : Nat → Prop} (h : NewB w B g A c l) (hc : Chg w w' S) (hS : ∀ y, B ≤ y → ¬ S y) : NewB w' B g A c l := by
  obtain ⟨h1, h2, h3, h4⟩ := h
  refine ⟨h1, h2, h3, h4.imp_right ?_⟩
  rintro ⟨a, b, cs, T, d, e⟩
  exact ⟨a, Nat.lt_of_lt_of_le b hc.size, cs, T, by rw [hc.block g b (hS g h3)]; exact d, e⟩
theorem sEmpt (k : Int) (w : World) : Calls Try.prog 128 #[.int .i64 k] w fun e w' => e = .returned (.bool (empB k)) ∧ w = w' := by
  unfold empB
  by_cases h2 : k = 2
  · subst h2
    go_enter Try.func128, Try.ntmps128
    go_wp2_with fail
    go_ret
    exact ⟨rfl, rfl⟩
  by_cases h3 : k = 3
  · subst h3
    go_enter Try.func128, Try.ntmps128
    go_wp2_with fail
    go_ret
    exact ⟨rfl, rfl⟩
  by_cases h4 : k = 4
  · subst h4
    go_enter Try.func128, Try.ntmps128
    go_wp2_with fail
    go_ret
    exact ⟨rfl, rfl⟩
  go_enter Try.func128, Try.ntmps128
  go_wp2_with fail
  go_ret
  exact ⟨by first | rfl | simp [h2, h3, h4], rfl⟩
set_option maxHeartbeats 2000000 in
theorem sFrame (w : World) (b : Nat) (hC : Cur w b) :
    Calls Try.prog 150 #[.pointer (some ⟨b, 0, none⟩)] w fun e w' => ∃ (kd fm to sq fr : Int) (mo re : Bool) (du : Int) (g : Nat) (A : Option Addr) (c : Nat) (l : List Int), e = .returned (.agg #[.int .i64 kd, .int .i64 fm, .int .i64 (to), .int .i64 sq, .int .i64 fr, .bool mo, .bool re, .int .i64 du, .slice A l.length c]) ∧ FB kd fm to sq fr du ∧ (∀ x ∈ l, 0 ≤ x ∧ x ≤ 255) ∧ l.length ≤ 101 ∧ NewB w' w.heap.size g A c l ∧ Drawn w w' b := by
  have hlt := hC.lt
  have D0 := Lib.hid (Drawn.of_ext hC (Ext.alloc_ w (.cells #[.int .i64 0, .int .i64 0, .int .i64 0, .int .i64 0, .int .i64 0, .bool false, .bool false, .int .i64 0, .slice none 0 0] 66)))
  have bR0 := Lib.hid (new_blk1 w #[.int .i64 0, .int .i64 0, .int .i64 0, .int .i64 0, .int .i64 0, .bool false, .bool false, .int .i64 0, .slice none 0 0] 66)
  have hneR : w.heap.size ≠ b := by omega
  clear hC
  go_enter Try.func150, Try.ntmps150
  go_wp2_with fail
  refine (sBelow _ _ _ D0.out.2 (by decide)).mono ?_
  rintro e w1 ⟨kd, rfl, hkd, hD⟩
  have hw1 : IntKind.i64.wrap (1 + kd) = 1 + kd := IntWalk.i64_in _ (by omega)
  have D1 := Lib.hid (D0.out.trans hD)
  have bR1 := Lib.hid (hD.blk bR0.out hneR)
  clear hD D0 bR0
  go_wp2_with fail
  refine (sBelow _ _ _ D1.out.2 (by decide)).mono ?_
  rintro e w2 ⟨fm, rfl, hfm, hD⟩
  have D2 := Lib.hid (D1.out.trans hD)
  have bR2 := Lib.hid (hD.blk bR1.out hneR)
  clear hD D1 bR1
  go_wp2_with fail
  refine (sBelow _ _ _ D2.out.2 (by decide)).mono ?_
  rintro e w3 ⟨to, rfl, hto, hD⟩
  have hw4 : IntKind.i64.wrap (4 + to) = 4 + to := IntWalk.i64_in _ (by omega)
  have D3 := Lib.hid (D2.out.trans hD)
  have bR3 := Lib.hid (hD.blk bR2.out hneR)
  clear hD D2 bR2
  go_wp2_with fail
  refine (sBelow _ _ _ D3.out.2 (by decide)).mono ?_
  rintro e w4 ⟨sq, rfl, hsq, hD⟩
  have D4 := Lib.hid (D3.out.trans hD)
  have bR4 := Lib.hid (hD.blk bR3.out hneR)
  clear hD D3 bR3
  go_wp2_with fail
  refine (sBelow _ _ _ D4.out.2 (by decide)).mono ?_
  rintro e w5 ⟨fr, rfl, hfr, hD⟩
  have D5 := Lib.hid (D4.out.trans hD)
  have bR5 := Lib.hid (hD.blk bR4.out hneR)
  clear hD D4 bR4
  go_wp2_with fail
  refine (sOnce _ _ _ D5.out.2 (by decide)).mono ?_
  rintro e w6 ⟨mo, rfl, hD⟩
  have D6 := Lib.hid (D5.out.trans hD)
  have bR6 := Lib.hid (hD.blk bR5.out hneR)
  clear hD D5 bR5
  go_wp2_with fail
  refine (sOnce _ _ _ D6.out.2 (by decide)).mono ?_
  rintro e w7 ⟨re, rfl, hD⟩
  have D7 := Lib.hid (D6.out.trans hD)
  have bR7 := Lib.hid (hD.blk bR6.out hneR)
  clear hD D6 bR6
  go_wp2_with fail
  refine (sBelow _ _ _ D7.out.2 (by decide)).mono ?_
  rintro e w8 ⟨du, rfl, hdu, hD⟩
  have D8 := Lib.hid (D7.out.trans hD)
  have bR8 := Lib.hid (hD.blk bR7.out hneR)
  clear hD D7 bR7
  go_wp2_with fail
  obtain ⟨kd', hkd'⟩ : ∃ k, k = 1 + kd := ⟨_, rfl⟩
  obtain ⟨to', hto'⟩ : ∃ k, k = 4 + to := ⟨_, rfl⟩
  rw [← hkd', ← hto']
  have hFB := Lib.hid (show FB kd' fm to' sq fr du from ⟨⟨by omega, by omega⟩, ⟨by omega, by omega⟩, ⟨by omega, by omega⟩, ⟨by omega, by omega⟩, ⟨by omega, by omega⟩, ⟨by omega, by omega⟩⟩)
  have hFB2 := Lib.hid (show FB kd' fm 63 sq fr du from ⟨⟨by omega, by omega⟩, ⟨by omega, by omega⟩, ⟨by omega, by omega⟩, ⟨by omega, by omega⟩, ⟨by omega, by omega⟩, ⟨by omega, by omega⟩⟩)
  clear hkd' hto' hkd hfm hto hsq hfr hdu hw1 hw4
  refine (sEmpt _ _).mono ?_
  rintro e w9 ⟨rfl, rfl⟩
  have D9 := Lib.hid (D8.out.ext (Ext.alloc_ w8 (.cells #[.int .i64 kd', .int .i64 fm, .int .i64 to', .int .i64 sq, .int .i64 fr, .bool mo, .bool re, .int .i64 du, .slice none 0 0] 66)))
  have bR9 := Lib.hid (ext_blk (Ext.alloc_ w8 (.cells #[.int .i64 kd', .int .i64 fm, .int .i64 to', .int .i64 sq, .int .i64 fr, .bool mo, .bool re, .int .i64 du, .slice none 0 0] 66)) bR8.out)
  have b9 := Lib.hid (new_blk1 w8 #[.int .i64 kd', .int .i64 fm, .int .i64 to', .int .i64 sq, .int .i64 fr, .bool mo, .bool re, .int .i64 du, .slice none 0 0] 66)
  have hRg : w.heap.size < w8.heap.size := heap_lt bR8.out
  have hgb : b < w8.heap.size := D8.out.2.lt
  clear D8 bR8
  cases hem : empB kd' with
  | true =>
    generalize World.alloc w8 _ = w9 at *
    generalize w8.heap.size = g3 at *
    obtain ⟨x1, x2, x3⟩ := blk_cells b9.out
    have p0 := x1 0
    have p1 := x1 1
    have p2 := x1 2
    have p3 := x1 3
    have p4 := x1 4
    have p5 := x1 5
    have p6 := x1 6
    have p7 := x1 7
    have p8 := x1 8
    simp at p0 p1 p2 p3 p4 p5 p6 p7 p8
    clear x1
    obtain ⟨y1, y2, y3⟩ := blk_cells bR9.out
    have q0 := y1 0
    have q1 := y1 1
    have q2 := y1 2
    have q3 := y1 3
    have q4 := y1 4
    have q5 := y1 5
    have q6 := y1 6
    have q7 := y1 7
    have q8 := y1 8
    simp at q0 q1 q2 q3 q4 q5 q6 q7 q8
    clear y1
    go_wp2_with fail
    refine bodyPost_ret (v := .agg #[.int .i64 kd', .int .i64 fm, .int .i64 (to'), .int .i64 sq, .int .i64 fr, .bool mo, .bool re, .int .i64 du, .slice none 0 0]) (by clear D9 b9 bR9 hFB hFB2; simp [results, Try.results150, go_sem, *]) rfl ⟨kd', fm, to', sq, fr, mo, re, du, w.heap.size, none, 0, [], rfl, hFB.out, by simp, by simp, ⟨fun _ => rfl, Nat.le_refl _, Nat.le_refl _, .inl rfl⟩, ?_⟩
    iterate 9 refine Drawn.set_ ?_ (by simp <;> omega) (by simp <;> omega) _
    exact D9.out
  | false =>
    go_wp2_with fail
    refine (sBelow _ _ _ D9.out.2 (by decide)).mono ?_
    rintro e w10 ⟨n, rfl, hn, hD⟩
    have D10 := Lib.hid (D9.out.trans hD)
    have bR10 := Lib.hid (hD.blk bR9.out hneR)
    have b10 := Lib.hid (hD.blk b9.out (by omega))
    clear hD D9 bR9 b9
    go_wp2_with fail
    refine (sBytes _ _ _ D10.out.2 (by omega)).mono ?_
    rintro e w11 ⟨g, A, c, l, rfl, hl, hb, hN, hD⟩
    have D11 := Lib.hid (D10.out.trans hD)
    have bR11 := Lib.hid (hD.blk bR10.out hneR)
    have b11 := Lib.hid (hD.blk b10.out (by omega))
    have hgz : w8.heap.size < w10.heap.size := heap_lt b10.out
    have HN := Lib.hid hN
    have HB := Lib.hid hb
    have hl' : l.length ≤ 101 := by omega
    clear hD D10 bR10 b10 hN hb hl hn
    generalize w8.heap.size = g3 at *
    generalize hz10 : w10.heap.size = B10 at *
    clear hz10
    obtain ⟨x1, x2, x3⟩ := blk_cells b11.out
    have p0 := x1 0
    have p1 := x1 1
    have p2 := x1 2
    have p3 := x1 3
    have p4 := x1 4
    have p5 := x1 5
    have p6 := x1 6
    have p7 := x1 7
    have p8 := x1 8
    simp at p0 p1 p2 p3 p4 p5 p6 p7 p8
    clear x1
    go_wp2_with fail
    have b12 := Lib.hid (blk_set b11.out 8 (.slice A l.length c))
    have bR12 := Lib.hid (set_blk (p := ⟨g3, 8, none⟩) (u := .slice A l.length c) bR11.out (by simp <;> omega))
    have D12 := Lib.hid (Drawn.set_ (p := ⟨g3, 8, none⟩) D11.out (by simp <;> omega) hgb (.slice A l.length c))
    have N12 := Lib.hid (NewB.set_ (p := ⟨g3, 8, none⟩) HN.out hgz (.slice A l.length c))
    simp only [List.setIfInBounds_toArray, List.set_cons_zero, List.set_cons_succ] at b12
    clear p0 p1 p2 p3 p4 p5 p6 p7 p8 x2 x3
    clear b11 bR11 D11 HN
    generalize World.setCell w11 ⟨g3, 8, none⟩ (.slice A l.length c) = w12 at *
    refine (sOnce _ _ _ D12.out.2 (by decide)).mono ?_
    rintro e w13 ⟨o, rfl, hD⟩
    have D13 := Lib.hid (D12.out.trans hD)
    have bR13 := Lib.hid (hD.blk bR12.out hneR)
    have b13 := Lib.hid (hD.blk b12.out (by omega))
    have N13 := Lib.hid (NewB.chg N12.out hD.1 (fun y hy => by omega))
    clear hD D12 bR12 b12 N12
    cases o with
    | true =>
      obtain ⟨x1, x2, x3⟩ := blk_cells b13.out
      have p0 := x1 0
      have p1 := x1 1
      have p2 := x1 2
      have p3 := x1 3
      have p4 := x1 4
      have p5 := x1 5
      have p6 := x1 6
      have p7 := x1 7
      have p8 := x1 8
      simp at p0 p1 p2 p3 p4 p5 p6 p7 p8
      clear x1
      obtain ⟨y1, y2, y3⟩ := blk_cells bR13.out
      have q0 := y1 0
      have q1 := y1 1
      have q2 := y1 2
      have q3 := y1 3
      have q4 := y1 4
      have q5 := y1 5
      have q6 := y1 6
      have q7 := y1 7
      have q8 := y1 8
      simp at q0 q1 q2 q3 q4 q5 q6 q7 q8
      clear y1
      go_wp2_with fail
      refine bodyPost_ret (v := .agg #[.int .i64 kd', .int .i64 fm, .int .i64 (63), .int .i64 sq, .int .i64 fr, .bool mo, .bool re, .int .i64 du, .slice A l.length c]) (by clear D13 b13 bR13 hFB hFB2 N13 HB; simp [results, Try.results150, go_sem, *]) rfl ⟨kd', fm, 63, sq, fr, mo, re, du, g, A, c, l, rfl, hFB2.out, HB.out, hl', ?_, ?_⟩
      · refine NewB.mono (B := B10) ?_ (by omega)
        iterate 10 refine NewB.set_ ?_ (by simp <;> omega) _
        exact N13.out
      · iterate 10 refine Drawn.set_ ?_ (by simp <;> omega) (by simp <;> omega) _
        exact D13.out
    | false =>
      obtain ⟨x1, x2, x3⟩ := blk_cells b13.out
      have p0 := x1 0
      have p1 := x1 1
      have p2 := x1 2
      have p3 := x1 3
      have p4 := x1 4
      have p5 := x1 5
      have p6 := x1 6
      have p7 := x1 7
      have p8 := x1 8
      simp at p0 p1 p2 p3 p4 p5 p6 p7 p8
      clear x1
      obtain ⟨y1, y2, y3⟩ := blk_cells bR13.out
      have q0 := y1 0
      have q1 := y1 1
      have q2 := y1 2
      have q3 := y1 3
      have q4 := y1 4
      have q5 := y1 5
      have q6 := y1 6
      have q7 := y1 7
      have q8 := y1 8
      simp at q0 q1 q2 q3 q4 q5 q6 q7 q8
      clear y1
      go_wp2_with fail
      refine bodyPost_ret (v := .agg #[.int .i64 kd', .int .i64 fm, .int .i64 (to'), .int .i64 sq, .int .i64 fr, .bool mo, .bool re, .int .i64 du, .slice A l.length c]) (by clear D13 b13 bR13 hFB hFB2 N13 HB; simp [results, Try.results150, go_sem, *]) rfl ⟨kd', fm, to', sq, fr, mo, re, du, g, A, c, l, rfl, hFB.out, HB.out, hl', ?_, ?_⟩
      · refine NewB.mono (B := B10) ?_ (by omega)
        iterate 9 refine NewB.set_ ?_ (by simp <;> omega) _
        exact N13.out
      · iterate 9 refine Drawn.set_ ?_ (by simp <;> omega) (by simp <;> omega) _
        exact D13.out
end Go.Proofs.Ytkmklafjcjkpdaa
