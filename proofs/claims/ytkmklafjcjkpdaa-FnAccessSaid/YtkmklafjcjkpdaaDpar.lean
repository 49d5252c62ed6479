/- Draws of access parameters. -/
import Derived.Test.YtkmklafjcjkpdaaRegD
import Derived.Test.YtkmklafjcjkpdaaG4
import Derived.Test.YtkmklafjcjkpdaaTq
import Derived.Test.YtkmklafjcjkpdaaLs
namespace Go.Proofs.Ytkmklafjcjkpdaa
open Go.RowKit
set_option linter.unusedVariables false
set_option linter.unusedSimpArgs false
theorem pf_bd (c : Int) : 0 ≤ pfA c ∧ pfA c ≤ 2047 ∧ 0 ≤ pfM c ∧ pfM c ≤ 2047 ∧ 0 ≤ pfX c ∧ pfX c ≤ 2047 ∧ 0 ≤ pfB c ∧ pfB c ≤ 2047 := by
  unfold pfA pfM pfX pfB pfV
  split <;> (try split) <;> (try split) <;> (try split) <;> omega
set_option maxHeartbeats 2000000 in
theorem sParams (w : World) (b : Nat) (hC : Cur w b) :
    Calls Try.prog 103 #[.pointer (some ⟨b, 0, none⟩)] w fun e w' => ∃ a m x bb : Int, e = .returned (.agg #[.int .i64 a, .int .i64 m, .int .i64 x, .int .i64 bb]) ∧ (0 ≤ a ∧ a ≤ 2047 ∧ 0 ≤ m ∧ m ≤ 2047 ∧ 0 ≤ x ∧ x ≤ 2047 ∧ 0 ≤ bb ∧ bb ≤ 2047) ∧ Drawn w w' b := by
  have hlt := hC.lt
  have D0 := Lib.hid (Drawn.of_ext hC (Ext.alloc_ w (.cells #[.int .i64 0, .int .i64 0, .int .i64 0, .int .i64 0] 25)))
  have bR := Lib.hid (new_blk1 w #[.int .i64 0, .int .i64 0, .int .i64 0, .int .i64 0] 25)
  have hneR : w.heap.size ≠ b := by omega
  clear hC
  go_enter Try.func103, Try.ntmps103
  go_wp2_with fail
  refine (sBelow _ _ _ D0.out.2 (by decide)).mono ?_
  rintro e w1 ⟨ct, rfl, hct, hD⟩
  have D1 := Lib.hid (D0.out.trans hD)
  have bR1 := Lib.hid (hD.blk bR.out hneR)
  clear hD
  go_wp2_with fail
  refine (sFor _ _).mono ?_
  rintro e w2 ⟨rfl, hE⟩
  have e2 := Ext.alloc_ w2 (.cells #[.int .i64 (pfA ct), .int .i64 (pfM ct), .int .i64 (pfX ct), .int .i64 (pfB ct)] 25)
  have D2 := Lib.hid (D1.out.ext (Ext.trans hE e2))
  have b2 := Lib.hid (new_blk1 w2 #[.int .i64 (pfA ct), .int .i64 (pfM ct), .int .i64 (pfX ct), .int .i64 (pfB ct)] 25)
  have hne : w2.heap.size ≠ b := by have := D1.out.2.lt; have := hE.size; omega
  have hbl : b < w2.heap.size := by have := D1.out.2.lt; have := hE.size; omega
  have hwl : w.heap.size < w2.heap.size := by have := heap_lt bR1.out; have := hE.size; omega
  have bR2 := Lib.hid (ext_blk (Ext.trans hE e2) bR1.out)
  clear hE e2
  go_wp2_with fail
  refine (sBelow _ _ _ D2.out.2 (by decide)).mono ?_
  rintro e w3 ⟨k, rfl, hk, hD⟩
  have D3 := Lib.hid (D2.out.trans hD)
  have b3 := Lib.hid (hD.blk b2.out hne)
  have bR3 := Lib.hid (hD.blk bR2.out hneR)
  clear hD D2 D1 b2 bR2 bR1 D0 bR
  have hq := pf_bd ct
  by_cases h : k = 0
  · subst h
    have hL := Lib.hid (cel_lit w3 3 #[.int .i64 0, .int .i64 1, .int .i64 15, .int .i64 16])
    go_wp2_with fail
    refine (sOneOf _ _ _ _ _ [0, 1, 15, 16] (D3.out.2.ext (Ext.alloc_ _ _)) rfl (by decide) hL.out (fun b' o h => by injection h with h; injection h with h; have := D3.out.2.lt; omega)).mono ?_
    rintro e w5 ⟨z, rfl, hz, hD⟩
    have D5 := Lib.hid (D3.out.trans (Drawn.trans (Drawn.of_ext D3.out.2 (Ext.alloc_ w3 _)) hD))
    have b5 := Lib.hid (hD.blk (ext_blk (Ext.alloc_ w3 _) b3.out) hne)
    have hzz : 0 ≤ z ∧ z ≤ 2047 := by simp at hz; omega
    have bR5 := Lib.hid (hD.blk (ext_blk (Ext.alloc_ w3 _) bR3.out) hneR)
    clear hD hz
    obtain ⟨x1, x2, x3⟩ := blk_cells b5.out
    have p0 := x1 0
    have p1 := x1 1
    have p2 := x1 2
    have p3 := x1 3
    obtain ⟨y1, y2, y3⟩ := blk_cells bR5.out
    have q0 := y1 0
    have q1 := y1 1
    have q2 := y1 2
    have q3 := y1 3
    simp at p0 p1 p2 p3 q0 q1 q2 q3
    clear x1 y1
    go_wp2_with fail
    refine bodyPost_ret (v := .agg #[.int .i64 (z), .int .i64 (pfM ct), .int .i64 (pfX ct), .int .i64 (pfB ct)]) (by clear D3 b3 bR3 bR5 D5 b5 hq hL; simp [results, Try.results103, go_sem, *]) rfl ⟨z, pfM ct, pfX ct, pfB ct, rfl, ?_, ?_⟩
    · obtain ⟨h1, h2, h3, h4, h5, h6, h7, h8⟩ := hq
      omega
    · iterate 5 refine Drawn.set_ ?_ (by simp <;> omega) (by simp <;> omega) _
      exact D5.out
  by_cases h : k = 1
  · subst h
    have hL := Lib.hid (cel_lit w3 3 #[.int .i64 0, .int .i64 1, .int .i64 6, .int .i64 31, .int .i64 1023, .int .i64 2047])
    go_wp2_with fail
    refine (sOneOf _ _ _ _ _ [0, 1, 6, 31, 1023, 2047] (D3.out.2.ext (Ext.alloc_ _ _)) rfl (by decide) hL.out (fun b' o h => by injection h with h; injection h with h; have := D3.out.2.lt; omega)).mono ?_
    rintro e w5 ⟨z, rfl, hz, hD⟩
    have D5 := Lib.hid (D3.out.trans (Drawn.trans (Drawn.of_ext D3.out.2 (Ext.alloc_ w3 _)) hD))
    have b5 := Lib.hid (hD.blk (ext_blk (Ext.alloc_ w3 _) b3.out) hne)
    have hzz : 0 ≤ z ∧ z ≤ 2047 := by simp at hz; omega
    have bR5 := Lib.hid (hD.blk (ext_blk (Ext.alloc_ w3 _) bR3.out) hneR)
    clear hD hz
    obtain ⟨x1, x2, x3⟩ := blk_cells b5.out
    have p0 := x1 0
    have p1 := x1 1
    have p2 := x1 2
    have p3 := x1 3
    obtain ⟨y1, y2, y3⟩ := blk_cells bR5.out
    have q0 := y1 0
    have q1 := y1 1
    have q2 := y1 2
    have q3 := y1 3
    simp at p0 p1 p2 p3 q0 q1 q2 q3
    clear x1 y1
    go_wp2_with fail
    refine bodyPost_ret (v := .agg #[.int .i64 (pfA ct), .int .i64 (z), .int .i64 (pfX ct), .int .i64 (pfB ct)]) (by clear D3 b3 bR3 bR5 D5 b5 hq hL; simp [results, Try.results103, go_sem, *]) rfl ⟨pfA ct, z, pfX ct, pfB ct, rfl, ?_, ?_⟩
    · obtain ⟨h1, h2, h3, h4, h5, h6, h7, h8⟩ := hq
      omega
    · iterate 5 refine Drawn.set_ ?_ (by simp <;> omega) (by simp <;> omega) _
      exact D5.out
  by_cases h : k = 2
  · subst h
    have hL := Lib.hid (cel_lit w3 3 #[.int .i64 0, .int .i64 1, .int .i64 14, .int .i64 31, .int .i64 1023, .int .i64 2047])
    go_wp2_with fail
    refine (sOneOf _ _ _ _ _ [0, 1, 14, 31, 1023, 2047] (D3.out.2.ext (Ext.alloc_ _ _)) rfl (by decide) hL.out (fun b' o h => by injection h with h; injection h with h; have := D3.out.2.lt; omega)).mono ?_
    rintro e w5 ⟨z, rfl, hz, hD⟩
    have D5 := Lib.hid (D3.out.trans (Drawn.trans (Drawn.of_ext D3.out.2 (Ext.alloc_ w3 _)) hD))
    have b5 := Lib.hid (hD.blk (ext_blk (Ext.alloc_ w3 _) b3.out) hne)
    have hzz : 0 ≤ z ∧ z ≤ 2047 := by simp at hz; omega
    have bR5 := Lib.hid (hD.blk (ext_blk (Ext.alloc_ w3 _) bR3.out) hneR)
    clear hD hz
    obtain ⟨x1, x2, x3⟩ := blk_cells b5.out
    have p0 := x1 0
    have p1 := x1 1
    have p2 := x1 2
    have p3 := x1 3
    obtain ⟨y1, y2, y3⟩ := blk_cells bR5.out
    have q0 := y1 0
    have q1 := y1 1
    have q2 := y1 2
    have q3 := y1 3
    simp at p0 p1 p2 p3 q0 q1 q2 q3
    clear x1 y1
    go_wp2_with fail
    refine bodyPost_ret (v := .agg #[.int .i64 (pfA ct), .int .i64 (pfM ct), .int .i64 (z), .int .i64 (pfB ct)]) (by clear D3 b3 bR3 bR5 D5 b5 hq hL; simp [results, Try.results103, go_sem, *]) rfl ⟨pfA ct, pfM ct, z, pfB ct, rfl, ?_, ?_⟩
    · obtain ⟨h1, h2, h3, h4, h5, h6, h7, h8⟩ := hq
      omega
    · iterate 5 refine Drawn.set_ ?_ (by simp <;> omega) (by simp <;> omega) _
      exact D5.out
  by_cases h : k = 3
  · subst h
    have hL := Lib.hid (cel_lit w3 3 #[.int .i64 0, .int .i64 1, .int .i64 1000, .int .i64 1001])
    go_wp2_with fail
    refine (sOneOf _ _ _ _ _ [0, 1, 1000, 1001] (D3.out.2.ext (Ext.alloc_ _ _)) rfl (by decide) hL.out (fun b' o h => by injection h with h; injection h with h; have := D3.out.2.lt; omega)).mono ?_
    rintro e w5 ⟨z, rfl, hz, hD⟩
    have D5 := Lib.hid (D3.out.trans (Drawn.trans (Drawn.of_ext D3.out.2 (Ext.alloc_ w3 _)) hD))
    have b5 := Lib.hid (hD.blk (ext_blk (Ext.alloc_ w3 _) b3.out) hne)
    have hzz : 0 ≤ z ∧ z ≤ 2047 := by simp at hz; omega
    have bR5 := Lib.hid (hD.blk (ext_blk (Ext.alloc_ w3 _) bR3.out) hneR)
    clear hD hz
    obtain ⟨x1, x2, x3⟩ := blk_cells b5.out
    have p0 := x1 0
    have p1 := x1 1
    have p2 := x1 2
    have p3 := x1 3
    obtain ⟨y1, y2, y3⟩ := blk_cells bR5.out
    have q0 := y1 0
    have q1 := y1 1
    have q2 := y1 2
    have q3 := y1 3
    simp at p0 p1 p2 p3 q0 q1 q2 q3
    clear x1 y1
    go_wp2_with fail
    refine bodyPost_ret (v := .agg #[.int .i64 (pfA ct), .int .i64 (pfM ct), .int .i64 (pfX ct), .int .i64 (z)]) (by clear D3 b3 bR3 bR5 D5 b5 hq hL; simp [results, Try.results103, go_sem, *]) rfl ⟨pfA ct, pfM ct, pfX ct, z, rfl, ?_, ?_⟩
    · obtain ⟨h1, h2, h3, h4, h5, h6, h7, h8⟩ := hq
      omega
    · iterate 5 refine Drawn.set_ ?_ (by simp <;> omega) (by simp <;> omega) _
      exact D5.out
  obtain ⟨x1, x2, x3⟩ := blk_cells b3.out
  have p0 := x1 0
  have p1 := x1 1
  have p2 := x1 2
  have p3 := x1 3
  obtain ⟨y1, y2, y3⟩ := blk_cells bR3.out
  have q0 := y1 0
  have q1 := y1 1
  have q2 := y1 2
  have q3 := y1 3
  simp at p0 p1 p2 p3 q0 q1 q2 q3
  clear x1 y1
  rename_i h0 h1 h2 h3
  go_wp2_with fail
  refine bodyPost_ret (v := .agg #[.int .i64 (pfA ct), .int .i64 (pfM ct), .int .i64 (pfX ct), .int .i64 (pfB ct)]) (by clear D3 b3 bR3 hq; simp [results, Try.results103, go_sem, *]) rfl ⟨_, _, _, _, rfl, ?_, ?_⟩
  · obtain ⟨h1, h2, h3, h4, h5, h6, h7, h8⟩ := hq
    omega
  · iterate 4 refine Drawn.set_ ?_ (by simp <;> omega) (by simp <;> omega) _
    exact D3.out
set_option maxHeartbeats 2000000 in
theorem sDrawWin (w : World) (A : Option Addr) (n c : Nat) (l : List Int) (hn : l.length = n) (hr : RB w A c l) (hb : ∀ x ∈ l, 0 ≤ x ∧ x ≤ 255) (hl : n ≤ 1048576) :
    Calls Try.prog 31 #[.slice A n c] w fun e w' => ∃ a m x bb f : Int, e = .returned (.tuple #[.agg #[.int .i64 a, .int .i64 m, .int .i64 x, .int .i64 bb], .int .i64 f]) ∧ (0 ≤ a ∧ a ≤ 2047 ∧ 0 ≤ m ∧ m ≤ 2047 ∧ 0 ≤ x ∧ x ≤ 2047 ∧ 0 ≤ bb ∧ bb ≤ 2047) ∧ (-1 ≤ f ∧ f ≤ 21) ∧ Ext w w' := by
  have eR := Ext.alloc_ w (.cells #[.int .i64 0, .int .i64 0, .int .i64 0, .int .i64 0] 25)
  have R1 := Lib.hid (hr.ext eR)
  have ER := Lib.hid eR
  have bR := Lib.hid (new_blk1 w #[.int .i64 0, .int .i64 0, .int .i64 0, .int .i64 0] 25)
  clear eR hr
  go_enter Try.func31, Try.ntmps31
  go_wp2_with fail
  refine (sNew _ _ _ _ l hn R1.out hb hl).mono ?_
  rintro e w1 ⟨b, rfl, h1, h2, h3⟩
  have E1 := Lib.hid (Ext.trans ER.out h1)
  have C1 := Lib.hid h3
  have bR1 := Lib.hid (ext_blk h1 bR.out)
  have hbw : w.heap.size + 1 ≤ b := by simpa using h2
  clear h1 h2 h3 hn hb R1
  go_wp2_with fail
  refine (sParams _ _ C1.out).mono ?_
  rintro e w2 ⟨a, m, x, bb, rfl, hq, hD⟩
  have D2 := Lib.hid (hD.ext (Ext.alloc_ w2 (.cells #[.int .i64 a, .int .i64 m, .int .i64 x, .int .i64 bb] 25)))
  have b2 := Lib.hid (new_blk1 w2 #[.int .i64 a, .int .i64 m, .int .i64 x, .int .i64 bb] 25)
  have bR2 := Lib.hid (ext_blk (Ext.alloc_ w2 (.cells #[.int .i64 a, .int .i64 m, .int .i64 x, .int .i64 bb] 25)) (hD.blk bR1.out (by omega)))
  have hb2 : b < w2.heap.size := hD.2.lt
  clear hD
  go_wp2_with fail
  refine C.wp_region_chain (R := relC b) 4 (by kernel_rfl) (by kernel_rfl) ?_
  simp only [List.take_succ_cons, List.take_zero, List.drop_succ_cons, List.drop_zero]
  (apply C.Chain.quiet (R := relC b); · (intro vs wq hEq hd; have b5 := XC.blk hEq b2.out (by omega); obtain ⟨c1, c2, c3⟩ := blk_cells b5; have e0 := c1 0; have e1 := c1 1; have e2 := c1 2; have e3 := c1 3; have e4 := c1 4; have e5 := c1 5; have e6 := c1 6; have e7 := c1 7; have e8 := c1 8; simp at e0 e1 e2 e3 e4 e5 e6 e7 e8; clear b5 c1 hEq hd; (try simp only [Act.put, C.SP.pick, C.SP.is, SPC.val, SPC.ints, id_eq, List.take_succ_cons, List.take_zero, List.drop_succ_cons, List.drop_zero, List.setIfInBounds_toArray, List.set_cons_zero, List.set_cons_succ]); refine C.growOp_go (R := relC b) ?_; go_simp; exact ⟨C.Ext.refl (R := relC b) _, rfl⟩))
  (apply C.Chain.quiet (R := relC b); · (intro vs wq hEq hd; clear hEq hd; (try simp only [Act.put, C.SP.pick, C.SP.is, SPC.val, SPC.ints, id_eq, List.take_succ_cons, List.take_zero, List.drop_succ_cons, List.drop_zero, List.setIfInBounds_toArray, List.set_cons_zero, List.set_cons_succ]); refine C.growOp_go (R := relC b) ?_; go_simp; exact ⟨C.Ext.refl (R := relC b) _, rfl⟩))
  refine C.Chain.sp (R := relC b) (SPC.ints b [-1, 0, 1, 2, 5, 20, 21]) ?_ ?_
  · intro vs wq hEq hd
    have hz : b < wq.heap.size := by have := XC.size hEq; simp at this; omega
    clear hd hEq
    (try simp only [Act.put, C.SP.pick, C.SP.is, SPC.val, SPC.ints, id_eq, List.take_succ_cons, List.take_zero, List.drop_succ_cons, List.drop_zero, List.setIfInBounds_toArray, List.set_cons_zero, List.set_cons_succ])
    refine C.growOp_go (R := relC b) ?_
    go_simp
    exact ⟨XC.of_ext (Ext.alloc_ _ _), cel_lit wq 3 #[.int .i64 (-1), .int .i64 0, .int .i64 1, .int .i64 2, .int .i64 5, .int .i64 20, .int .i64 21], fun h => by omega⟩
  refine C.Chain.sp (R := relC b) (SPC.val b (fun v => ∃ f : Int, v = .int .i64 f ∧ -1 ≤ f ∧ f ≤ 21)) ?_ ?_
  · intro vs wq hEq hd
    obtain ⟨A7, e7, h7, g7⟩ := hd 2 (by kernel_rfl)
    have hC := Lib.hid (XC.cur hEq D2.out.2)
    have h7' := Lib.hid h7
    have g7' := Lib.hid g7
    clear hd h7 g7 hEq
    simp only [Act.put, C.SP.pick, C.SP.is, SPC.val, SPC.ints, id_eq, List.take_succ_cons, List.take_zero, List.drop_succ_cons, List.drop_zero, List.setIfInBounds_toArray, List.set_cons_zero, List.set_cons_succ]
    rw [e7]
    refine C.growOp_go (R := relC b) ?_
    clear e7
    go_simp
    refine (sOneOf _ _ _ _ _ [-1, 0, 1, 2, 5, 20, 21] hC.out rfl (by decide) h7'.out g7'.out).mono ?_
    rintro e w6 ⟨f, rfl, hf, hD⟩
    exact ⟨_, rfl, XC.of_drawn hD, f, rfl, by simp at hf; omega, by simp at hf; omega⟩
  refine C.Chain.done (R := relC b) ?_
  intro vs w3 hE3 hd3
  simp only [Act.put, C.SP.pick, C.SP.is, SPC.val, SPC.ints, id_eq, List.take_succ_cons, List.take_zero, List.drop_succ_cons, List.drop_zero, List.setIfInBounds_toArray, List.set_cons_zero, List.set_cons_succ]
  obtain ⟨f, e3, hf1, hf2⟩ := hd3 3
  rw [e3]
  have D3 := Lib.hid (Drawn.trans D2.out (XC.drawn hE3 D2.out.2))
  have bR3 := Lib.hid (XC.blk hE3 bR2.out (by omega))
  clear hd3 hE3 e3
  obtain ⟨y1, y2, y3⟩ := blk_cells bR3.out
  have q0 := y1 0
  have q1 := y1 1
  have q2 := y1 2
  have q3 := y1 3
  simp at q0 q1 q2 q3
  clear y1
  go_wp2_with fail
  refine bodyPost_ret (v := .tuple #[.agg #[.int .i64 a, .int .i64 m, .int .i64 x, .int .i64 bb], .int .i64 f]) (by clear D3 bR3 b2 bR2 D2 bR1 C1 E1 bR ER; simp [results, Try.results31, go_sem, *]) rfl ⟨a, m, x, bb, f, rfl, hq, ⟨hf1, hf2⟩, ?_⟩
  iterate 4 refine Ext.setCell_ ?_ (by simp <;> omega) _
  exact D3.out.1.ext E1.out (fun x hx => by omega)
end Go.Proofs.Ytkmklafjcjkpdaa
