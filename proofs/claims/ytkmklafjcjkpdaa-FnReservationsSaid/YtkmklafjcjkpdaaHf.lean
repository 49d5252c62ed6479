/- Draws of reservations and of a frame that is heard. -/
import Derived.Test.YtkmklafjcjkpdaaFrA
import Derived.Deep.DeepCutAuto
import Derived.Deep.RegionWith
namespace Go.Proofs.Ytkmklafjcjkpdaa
open Go.RowKit
set_option linter.unusedVariables false
set_option linter.unusedSimpArgs false
theorem drawn_pre {a w w' : World} {b : Nat} (hC : Cur a b) (hD : Drawn w w' b) (hE : Ext a w) : Drawn a w' b := (Drawn.of_ext hC hE).trans hD
theorem cel_of_blk {w : World} {g : Nat} {cs : Array Value} {T : TypeId} (h : w.heap[g]? = some (.cells cs T (0, 0))) : Cel w (some ⟨g, 0, none⟩) cs.toList := by
  obtain ⟨hb, _, hlt⟩ := blk_cells h
  refine .inr ⟨_, 0, rfl, hlt, fun j u hu => ?_⟩
  rw [Nat.zero_add, hb j]
  simpa using hu
def RI (u o r : Int) : Prop := (-1 ≤ u ∧ u ≤ 1000000000001) ∧ (-1 ≤ o ∧ o ≤ 16) ∧ (-1 ≤ r ∧ r ≤ 16)
set_option maxHeartbeats 2000000 in
theorem sAny16 (w : World) (b : Nat) (hC : Cur w b) :
    Calls Try.prog 125 #[.pointer (some ⟨b, 0, none⟩)] w fun e w' => ∃ u o r : Int, e = .returned (.agg #[.int .i64 u, .int .i64 o, .int .i64 r]) ∧ RI u o r ∧ Drawn w w' b := by
  have hlt := hC.lt
  have D0 := Lib.hid (Drawn.of_ext hC (Ext.alloc_ w (.cells #[.int .i64 0, .int .i64 0, .int .i64 0] 85)))
  have bR0 := Lib.hid (new_blk1 w #[.int .i64 0, .int .i64 0, .int .i64 0] 85)
  have hneR : w.heap.size ≠ b := by omega
  clear hC
  go_enter Try.func125, Try.ntmps125
  go_wp2_with fail
  refine (sBelow _ _ _ D0.out.2 (by decide)).mono ?_
  rintro e w1 ⟨u, rfl, hu, hD⟩
  have D1 := Lib.hid (D0.out.trans hD)
  have bR1 := Lib.hid (hD.blk bR0.out hneR)
  clear hD D0 bR0
  go_wp2_with fail
  refine (sBelow _ _ _ D1.out.2 (by decide)).mono ?_
  rintro e w2 ⟨o, rfl, ho, hD⟩
  have D2 := Lib.hid (D1.out.trans hD)
  have bR2 := Lib.hid (hD.blk bR1.out hneR)
  clear hD D1 bR1
  go_wp2_with fail
  refine (sBelow _ _ _ D2.out.2 (by decide)).mono ?_
  rintro e w3 ⟨r, rfl, hr, hD⟩
  have D3 := Lib.hid (D2.out.trans hD)
  have bR3 := Lib.hid (hD.blk bR2.out hneR)
  clear hD D2 bR2
  have hRI := Lib.hid (show RI u o r from ⟨⟨by omega, by omega⟩, ⟨by omega, by omega⟩, ⟨by omega, by omega⟩⟩)
  have e3 := Ext.alloc_ w3 (.cells #[.int .i64 u, .int .i64 o, .int .i64 r] 85)
  have D4 := Lib.hid (D3.out.ext e3)
  have bR4 := Lib.hid (ext_blk e3 bR3.out)
  have b4 := Lib.hid (new_blk1 w3 #[.int .i64 u, .int .i64 o, .int .i64 r] 85)
  have hRg : w.heap.size < w3.heap.size := heap_lt bR3.out
  have hgb : b < w3.heap.size := D3.out.2.lt
  clear D3 bR3 e3 hu ho hr
  go_wp2_with fail
  refine (sBelow _ _ _ D4.out.2 (by decide)).mono ?_
  rintro e w5 ⟨k, rfl, hk, hD⟩
  have D5 := Lib.hid (D4.out.trans hD)
  have bR5 := Lib.hid (hD.blk bR4.out hneR)
  have b5 := Lib.hid (hD.blk b4.out (by omega))
  generalize w3.heap.size = g3 at *
  clear hD D4 bR4 b4
  obtain ⟨x1, x2, x3⟩ := blk_cells b5.out
  have p0 := x1 0
  have p1 := x1 1
  have p2 := x1 2
  simp at p0 p1 p2
  clear x1
  obtain ⟨y1, y2, y3⟩ := blk_cells bR5.out
  have q0 := y1 0
  have q1 := y1 1
  have q2 := y1 2
  simp at q0 q1 q2
  clear y1
  by_cases k0 : k = 0
  · subst k0
    have hL := Lib.hid (cel_lit w5 3 #[.int .i64 (-1), .int .i64 1000000000000, .int .i64 1000000000001])
    go_wp2_with fail
    refine (sOneOf _ _ _ _ _ [-1, 1000000000000, 1000000000001] (D5.out.2.ext (Ext.alloc_ _ _)) rfl (by simp) hL.out (fun b' o' h => by injection h with h; injection h with h; have := D5.out.2.lt; omega)).mono ?_
    rintro e w6 ⟨z, rfl, hz, hD⟩
    have D6 := Lib.hid (D5.out.trans (Drawn.trans (Drawn.of_ext D5.out.2 (Ext.alloc_ w5 _)) hD))
    have b6 := Lib.hid (hD.blk (ext_blk (Ext.alloc_ w5 _) b5.out) (by omega))
    have bR6 := Lib.hid (hD.blk (ext_blk (Ext.alloc_ w5 _) bR5.out) hneR)
    have hRZ := Lib.hid (show RI z o r by have h := hRI.out; unfold RI at h ⊢; simp at hz; omega)
    clear p0 p1 p2 x2 x3
    clear q0 q1 q2 y2 y3
    clear hD D5 b5 bR5 hz hL
    obtain ⟨x1, x2, x3⟩ := blk_cells b6.out
    have p0 := x1 0
    have p1 := x1 1
    have p2 := x1 2
    simp at p0 p1 p2
    clear x1
    obtain ⟨y1, y2, y3⟩ := blk_cells bR6.out
    have q0 := y1 0
    have q1 := y1 1
    have q2 := y1 2
    simp at q0 q1 q2
    clear y1
    go_wp2_with fail
    refine bodyPost_ret (v := .agg #[.int .i64 z, .int .i64 o, .int .i64 r]) (by clear D6 b6 bR6 hRI hRZ; simp [results, Try.results125, go_sem, *]) rfl ⟨z, o, r, rfl, hRZ.out, ?_⟩
    iterate 4 refine Drawn.set_ ?_ (by simp <;> omega) (by simp <;> omega) _
    exact D6.out
  by_cases k1 : k = 1
  · subst k1
    have hL := Lib.hid (cel_lit w5 3 #[.int .i64 (-1), .int .i64 15, .int .i64 16])
    go_wp2_with fail
    refine (sOneOf _ _ _ _ _ [-1, 15, 16] (D5.out.2.ext (Ext.alloc_ _ _)) rfl (by simp) hL.out (fun b' o' h => by injection h with h; injection h with h; have := D5.out.2.lt; omega)).mono ?_
    rintro e w6 ⟨z, rfl, hz, hD⟩
    have D6 := Lib.hid (D5.out.trans (Drawn.trans (Drawn.of_ext D5.out.2 (Ext.alloc_ w5 _)) hD))
    have b6 := Lib.hid (hD.blk (ext_blk (Ext.alloc_ w5 _) b5.out) (by omega))
    have bR6 := Lib.hid (hD.blk (ext_blk (Ext.alloc_ w5 _) bR5.out) hneR)
    have hRZ := Lib.hid (show RI u z r by have h := hRI.out; unfold RI at h ⊢; simp at hz; omega)
    clear p0 p1 p2 x2 x3
    clear q0 q1 q2 y2 y3
    clear hD D5 b5 bR5 hz hL
    obtain ⟨x1, x2, x3⟩ := blk_cells b6.out
    have p0 := x1 0
    have p1 := x1 1
    have p2 := x1 2
    simp at p0 p1 p2
    clear x1
    obtain ⟨y1, y2, y3⟩ := blk_cells bR6.out
    have q0 := y1 0
    have q1 := y1 1
    have q2 := y1 2
    simp at q0 q1 q2
    clear y1
    go_wp2_with fail
    refine bodyPost_ret (v := .agg #[.int .i64 u, .int .i64 z, .int .i64 r]) (by clear D6 b6 bR6 hRI hRZ; simp [results, Try.results125, go_sem, *]) rfl ⟨u, z, r, rfl, hRZ.out, ?_⟩
    iterate 4 refine Drawn.set_ ?_ (by simp <;> omega) (by simp <;> omega) _
    exact D6.out
  by_cases k2 : k = 2
  · subst k2
    have hL := Lib.hid (cel_lit w5 3 #[.int .i64 (-1), .int .i64 15, .int .i64 16])
    go_wp2_with fail
    refine (sOneOf _ _ _ _ _ [-1, 15, 16] (D5.out.2.ext (Ext.alloc_ _ _)) rfl (by simp) hL.out (fun b' o' h => by injection h with h; injection h with h; have := D5.out.2.lt; omega)).mono ?_
    rintro e w6 ⟨z, rfl, hz, hD⟩
    have D6 := Lib.hid (D5.out.trans (Drawn.trans (Drawn.of_ext D5.out.2 (Ext.alloc_ w5 _)) hD))
    have b6 := Lib.hid (hD.blk (ext_blk (Ext.alloc_ w5 _) b5.out) (by omega))
    have bR6 := Lib.hid (hD.blk (ext_blk (Ext.alloc_ w5 _) bR5.out) hneR)
    have hRZ := Lib.hid (show RI u o z by have h := hRI.out; unfold RI at h ⊢; simp at hz; omega)
    clear p0 p1 p2 x2 x3
    clear q0 q1 q2 y2 y3
    clear hD D5 b5 bR5 hz hL
    obtain ⟨x1, x2, x3⟩ := blk_cells b6.out
    have p0 := x1 0
    have p1 := x1 1
    have p2 := x1 2
    simp at p0 p1 p2
    clear x1
    obtain ⟨y1, y2, y3⟩ := blk_cells bR6.out
    have q0 := y1 0
    have q1 := y1 1
    have q2 := y1 2
    simp at q0 q1 q2
    clear y1
    go_wp2_with fail
    refine bodyPost_ret (v := .agg #[.int .i64 u, .int .i64 o, .int .i64 z]) (by clear D6 b6 bR6 hRI hRZ; simp [results, Try.results125, go_sem, *]) rfl ⟨u, o, z, rfl, hRZ.out, ?_⟩
    iterate 4 refine Drawn.set_ ?_ (by simp <;> omega) (by simp <;> omega) _
    exact D6.out
  go_wp2_with fail
  refine bodyPost_ret (v := .agg #[.int .i64 u, .int .i64 o, .int .i64 r]) (by clear D5 b5 bR5 hRI; simp [results, Try.results125, go_sem, *]) rfl ⟨u, o, r, rfl, hRI.out, ?_⟩
  iterate 3 refine Drawn.set_ ?_ (by simp <;> omega) (by simp <;> omega) _
  exact D5.out
set_option maxHeartbeats 4000000 in
theorem sDrawHear (w : World) (A0 : Option Addr) (n0 c0 : Nat) (l0 : List Int) (hn : l0.length = n0) (hr : RB w A0 c0 l0) (hb : ∀ x ∈ l0, 0 ≤ x ∧ x ≤ 255) (hl : n0 ≤ 1048576) :
    Calls Try.prog 60 #[.slice A0 n0 c0] w fun e w' => ∃ (u o r s : Int) (kd fm ta sq fr : Int) (mo re : Bool) (du : Int) (A : Option Addr) (n c : Nat) (nw : Int), e = .returned (.tuple #[.agg #[.int .i64 u, .int .i64 o, .int .i64 r], .int .i64 s, .agg #[.int .i64 kd, .int .i64 fm, .int .i64 (ta), .int .i64 sq, .int .i64 fr, .bool mo, .bool re, .int .i64 du, .slice A n c], .int .i64 nw]) ∧ RI u o r ∧ FB kd fm ta sq fr du ∧ n ≤ 101 ∧ (-1 ≤ nw ∧ nw ≤ 999999999000) ∧ Ext w w' := by
  have eR := Ext.alloc_ w (.cells #[.int .i64 0, .int .i64 0, .int .i64 0] 85)
  have eF := Ext.alloc_ (w.alloc (.cells #[.int .i64 0, .int .i64 0, .int .i64 0] 85)) (.cells #[.int .i64 0, .int .i64 0, .int .i64 0, .int .i64 0, .int .i64 0, .bool false, .bool false, .int .i64 0, .slice none 0 0] 66)
  have R1 := Lib.hid (hr.ext (Ext.trans eR eF))
  have ER := Lib.hid (Ext.trans eR eF)
  have bR := Lib.hid (alloc_blk (.cells #[.int .i64 0, .int .i64 0, .int .i64 0, .int .i64 0, .int .i64 0, .bool false, .bool false, .int .i64 0, .slice none 0 0] 66) (new_blk1 w #[.int .i64 0, .int .i64 0, .int .i64 0] 85))
  have bF := Lib.hid (new_blk2 w (.cells #[.int .i64 0, .int .i64 0, .int .i64 0] 85) #[.int .i64 0, .int .i64 0, .int .i64 0, .int .i64 0, .int .i64 0, .bool false, .bool false, .int .i64 0, .slice none 0 0] 66)
  clear eR eF hr
  go_enter Try.func60, Try.ntmps60
  go_wp2_with fail
  refine (sNew _ _ _ _ l0 hn R1.out hb hl).mono ?_
  rintro e w1 ⟨b, rfl, h1, h2, h3⟩
  have E1 := Lib.hid (Ext.trans ER.out h1)
  have C1 := Lib.hid h3
  have bR1 := Lib.hid (ext_blk h1 bR.out)
  have bF1 := Lib.hid (ext_blk h1 bF.out)
  have hbw : w.heap.size + 2 ≤ b := by simpa using h2
  clear h1 h2 h3 hn hb R1 bR bF ER
  go_wp2_with fail
  refine (sAny16 _ _ C1.out).mono ?_
  rintro e w2 ⟨u, o, r, rfl, hRI, hD⟩
  have HRI := Lib.hid hRI
  have e2 := Ext.alloc_ w2 (.cells #[.int .i64 u, .int .i64 o, .int .i64 r] 85)
  have D2 := Lib.hid (hD.ext e2)
  have b2 := Lib.hid (new_blk1 w2 #[.int .i64 u, .int .i64 o, .int .i64 r] 85)
  have bR2 := Lib.hid (ext_blk e2 (hD.blk bR1.out (by omega)))
  have bF2 := Lib.hid (ext_blk e2 (hD.blk bF1.out (by omega)))
  have hb2 : b < w2.heap.size := hD.2.lt
  clear hD hRI bR1 bF1 e2
  go_wp2_with fail
  refine (sAny12 _ _ D2.out.2).mono ?_
  rintro e w3 ⟨kd, fm, ta, sq, fr, mo, re, du, g, A, c, l, rfl, hF, hbb, hll, hN, hD⟩
  have HF := Lib.hid hF
  have e3 := Ext.alloc_ w3 (.cells #[.int .i64 kd, .int .i64 fm, .int .i64 (ta), .int .i64 sq, .int .i64 fr, .bool mo, .bool re, .int .i64 du, .slice A l.length c] 66)
  have D3 := Lib.hid ((D2.out.trans hD).ext e3)
  have b3 := Lib.hid (new_blk1 w3 #[.int .i64 kd, .int .i64 fm, .int .i64 (ta), .int .i64 sq, .int .i64 fr, .bool mo, .bool re, .int .i64 du, .slice A l.length c] 66)
  have b23 := Lib.hid (ext_blk e3 (hD.blk b2.out (by omega)))
  have bR3 := Lib.hid (ext_blk e3 (hD.blk bR2.out (by omega)))
  have bF3 := Lib.hid (ext_blk e3 (hD.blk bF2.out (by omega)))
  have hb3 : b < w3.heap.size := hD.2.lt
  clear hD hF hbb hN D2 b2 bR2 bF2 e3
  generalize l.length = n at *
  generalize w2.heap.size = g2 at *
  go_wp2_with fail
  have hL1 := cel_lit (w3.alloc (.cells #[.int .i64 kd, .int .i64 fm, .int .i64 (ta), .int .i64 sq, .int .i64 fr, .bool mo, .bool re, .int .i64 du, .slice A n c] 66)) 3 #[.int .i64 ta, .int .i64 0, .int .i64 1, .int .i64 7, .int .i64 9]
  simp only [World.size_alloc] at hL1
  refine (sOneOf _ _ _ _ _ [ta, 0, 1, 7, 9] (D3.out.2.ext (Ext.alloc_ _ _)) rfl (by simp) hL1 (fun b' o' h => by injection h with h; injection h with h; omega)).mono ?_
  rintro e w5 ⟨s, rfl, hs, hD⟩
  have D5 := Lib.hid (D3.out.trans (Drawn.trans (Drawn.of_ext D3.out.2 (Ext.alloc_ _ _)) hD))
  have b5 := Lib.hid (hD.blk (ext_blk (Ext.alloc_ _ _) b3.out) (by omega))
  have b25 := Lib.hid (hD.blk (ext_blk (Ext.alloc_ _ _) b23.out) (by omega))
  have bR5 := Lib.hid (hD.blk (ext_blk (Ext.alloc_ _ _) bR3.out) (by omega))
  have bF5 := Lib.hid (hD.blk (ext_blk (Ext.alloc_ _ _) bF3.out) (by omega))
  clear hL1 hs hD D3 b3 b23 bR3 bF3
  generalize w3.heap.size = g3 at *
  obtain ⟨x1, x2, x3⟩ := blk_cells b5.out
  have p0 := x1 0
  have p1 := x1 1
  have p2 := x1 2
  have p3 := x1 3
  have p4 := x1 4
  have p5 := x1 5
  have p6 := x1 6
  have p7 := x1 7
  have p8 := x1 8
  simp at p0 p1 p2 p3 p4 p5 p6 p7 p8
  clear x1
  obtain ⟨y1, y2, y3⟩ := blk_cells b25.out
  have q0 := y1 0
  have q1 := y1 1
  have q2 := y1 2
  simp at q0 q1 q2
  clear y1
  go_upto_region 5 with fail
  go_region_with (go_at_call 104; refine (sOneOf _ _ _ _ _ [-1, 0, 3, 9, 14, 20, 999999998999, 999999999000] (D5.out.2.ext (by repeat (first | exact Ext.refl _ | refine Ext.drew ?_ | refine Ext.trans ?_ (Ext.alloc_ _ _)))) rfl (by decide) (cel_of_blk (cs := #[.int .i64 (-1), .int .i64 0, .int .i64 3, .int .i64 9, .int .i64 14, .int .i64 20, .int .i64 999999998999, .int .i64 999999999000]) (T := 3) (by first | exact new_blk1 (w5) #[.int .i64 (-1), .int .i64 0, .int .i64 3, .int .i64 9, .int .i64 14, .int .i64 20, .int .i64 999999998999, .int .i64 999999999000] 3 | exact new_blk1 (w5.drew) #[.int .i64 (-1), .int .i64 0, .int .i64 3, .int .i64 9, .int .i64 14, .int .i64 20, .int .i64 999999998999, .int .i64 999999999000] 3 | exact new_blk1 (w5.drew.drew) #[.int .i64 (-1), .int .i64 0, .int .i64 3, .int .i64 9, .int .i64 14, .int .i64 20, .int .i64 999999998999, .int .i64 999999999000] 3 | exact new_blk1 (w5.drew.drew.drew) #[.int .i64 (-1), .int .i64 0, .int .i64 3, .int .i64 9, .int .i64 14, .int .i64 20, .int .i64 999999998999, .int .i64 999999999000] 3 | exact new_blk1 (w5.drew.drew.drew.drew) #[.int .i64 (-1), .int .i64 0, .int .i64 3, .int .i64 9, .int .i64 14, .int .i64 20, .int .i64 999999998999, .int .i64 999999999000] 3 | exact new_blk1 (w5.drew.drew.drew.drew.drew) #[.int .i64 (-1), .int .i64 0, .int .i64 3, .int .i64 9, .int .i64 14, .int .i64 20, .int .i64 999999998999, .int .i64 999999999000] 3 | exact new_blk1 (w5.drew.drew.drew.drew.drew.drew) #[.int .i64 (-1), .int .i64 0, .int .i64 3, .int .i64 9, .int .i64 14, .int .i64 20, .int .i64 999999998999, .int .i64 999999999000] 3)) (fun b' o' h => by injection h with h; injection h with h; have := D5.out.2.lt; omega)).mono ?_; rintro e w6 ⟨nw, rfl, hnw, hD⟩; have X6 := drawn_pre D5.out.2 hD (by repeat (first | exact Ext.refl _ | refine Ext.drew ?_ | refine Ext.trans ?_ (Ext.alloc_ _ _))); have D6 := Lib.hid (D5.out.trans X6); have hB1 := X6.blk b5.out (by omega); have hB2 := X6.blk b25.out (by omega); have hB3 := X6.blk bR5.out (by omega); have hB4 := X6.blk bF5.out (by omega); have HW := Lib.hid hnw; clear hnw hD X6; obtain ⟨s1, s2, s3⟩ := blk_cells hB1; have i0 := s1 0; have i1 := s1 1; have i2 := s1 2; have i3 := s1 3; have i4 := s1 4; have i5 := s1 5; have i6 := s1 6; have i7 := s1 7; have i8 := s1 8; simp at i0 i1 i2 i3 i4 i5 i6 i7 i8; clear s1; obtain ⟨t1, t2, t3⟩ := blk_cells hB2; have j0 := t1 0; have j1 := t1 1; have j2 := t1 2; simp at j0 j1 j2; clear t1; obtain ⟨v1, v2, v3⟩ := blk_cells hB3; have k0 := v1 0; have k1 := v1 1; have k2 := v1 2; simp at k0 k1 k2; clear v1; obtain ⟨z1, z2, z3⟩ := blk_cells hB4; have m0 := z1 0; have m1 := z1 1; have m2 := z1 2; have m3 := z1 3; have m4 := z1 4; have m5 := z1 5; have m6 := z1 6; have m7 := z1 7; have m8 := z1 8; simp at m0 m1 m2 m3 m4 m5 m6 m7 m8; clear z1; clear hB1 hB2 hB3 hB4)
  all_goals go_wp2_with fail
  all_goals refine bodyPost_ret (v := .tuple #[.agg #[.int .i64 u, .int .i64 o, .int .i64 r], .int .i64 s, .agg #[.int .i64 kd, .int .i64 fm, .int .i64 (ta), .int .i64 sq, .int .i64 fr, .bool mo, .bool re, .int .i64 du, .slice A n c], .int .i64 nw]) (by clear D6 HW D5 b5 b25 bR5 bF5 E1 HRI HF C1; simp [results, Try.results60, go_sem, *]) rfl ⟨u, o, r, s, kd, fm, ta, sq, fr, mo, re, du, A, n, c, nw, rfl, HRI.out, HF.out, hll, ⟨by have h := HW.out; simp at h; omega, by have h := HW.out; simp at h; omega⟩, ?_⟩
  all_goals (iterate 12 refine Ext.setCell_ ?_ (by simp <;> omega) _)
  all_goals exact D6.out.1.ext E1.out (fun x hx => by omega)
end Go.Proofs.Ytkmklafjcjkpdaa
