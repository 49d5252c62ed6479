/- Draws of queues and messages for the laws. -/
import Derived.Test.YtkmklafjcjkpdaaQuQ
namespace Go.Proofs.Ytkmklafjcjkpdaa
open Go.RowKit
set_option linter.unusedVariables false
set_option linter.unusedSimpArgs false
set_option maxHeartbeats 1000000 in
theorem sDrawQ (w : World) (A0 : Option Addr) (n0 c0 : Nat) (l0 : List Int) (hn : l0.length = n0) (hr : RB w A0 c0 l0) (hb : ∀ x ∈ l0, 0 ≤ x ∧ x ≤ 255) (hl : n0 ≤ 1048576) :
    Calls Try.prog 108 #[.slice A0 n0 c0] w fun e w' => ∃ (A : Option Addr) (c : Nat) (l : List Msg) (d : Int), e = .returned (.agg #[.slice A l.length c, .int .i64 d]) ∧ QF l d ∧ AppR kMsg 59 w' w.heap.size (fun _ => False) (.slice A l.length c) l ∧ Ext w w' := by
  have eR := Ext.alloc_ w (.cells #[.slice none 0 0, .int .i64 0] 55)
  have R1 := Lib.hid (hr.ext eR)
  have ER := Lib.hid eR
  have bR := Lib.hid (new_blk1 w #[.slice none 0 0, .int .i64 0] 55)
  clear eR hr
  go_enter Try.func108, Try.ntmps108
  go_wp2_with fail
  refine (sNew _ _ _ _ l0 hn R1.out hb hl).mono ?_
  rintro e w1 ⟨b, rfl, h1, h2, h3⟩
  have E1 := Lib.hid (Ext.trans ER.out h1)
  have C1 := Lib.hid h3
  have bR1 := Lib.hid (ext_blk h1 bR.out)
  have hbw : w.heap.size + 1 ≤ b := by simpa using h2
  have hz1 : w.heap.size + 1 ≤ w1.heap.size := by have := h3.lt; omega
  clear h1 h2 h3 hn hb R1 ER bR
  go_wp2_with fail
  refine (sQueue _ _ C1.out).mono ?_
  rintro e w2 ⟨A, c, l, d, rfl, hQ, hA, hD⟩
  have E2 := Lib.hid (hD.1.ext E1.out (fun x hx => by omega))
  have bR2 := Lib.hid (hD.blk bR1.out (by omega))
  have HQ := Lib.hid hQ
  have HA := Lib.hid hA
  obtain ⟨N, hN⟩ : ∃ N, N = l.length := ⟨_, rfl⟩
  have HN := Lib.hid hN
  rw [← hN] at HA ⊢
  clear hQ hA hD hN E1 C1 bR1
  obtain ⟨y1, y2, y3⟩ := blk_cells bR2.out
  have q0 := y1 0
  have q1 := y1 1
  simp at q0 q1
  clear y1
  go_wp2_with fail
  refine bodyPost_ret (v := .agg #[.slice A N c, .int .i64 d]) (by clear E2 bR2 HQ HA HN; simp [results, Try.results108, go_sem, *]) rfl ⟨A, c, l, d, by rw [HN.out], HQ.out, ?_, ?_⟩
  · rw [← HN.out]
    refine AppR.weak (B := w1.heap.size) (X := fun _ => False) ?_ (by omega) (fun _ h => h)
    iterate 2 refine AppR.setb ?_ (by simp <;> omega) _
    exact HA.out
  · iterate 2 refine Ext.setCell_ ?_ (by simp) _
    exact E2.out
set_option maxHeartbeats 1000000 in
theorem sDrawNext (w : World) (A0 : Option Addr) (n0 c0 : Nat) (l0 : List Int) (hn : l0.length = n0) (hr : RB w A0 c0 l0) (hb : ∀ x ∈ l0, 0 ≤ x ∧ x ≤ 255) (hl : n0 ≤ 1048576) :
    Calls Try.prog 39 #[.slice A0 n0 c0] w fun e w' => ∃ (A : Option Addr) (c : Nat) (l : List Msg) (d : Int), e = .returned (.agg #[.slice A l.length c, .int .i64 d]) ∧ QF l d ∧ AppR kMsg 59 w' w.heap.size (fun _ => False) (.slice A l.length c) l ∧ Ext w w' := by
  have eR := Ext.alloc_ w (.cells #[.slice none 0 0, .int .i64 0] 55)
  have R1 := Lib.hid (hr.ext eR)
  have ER := Lib.hid eR
  have bR := Lib.hid (new_blk1 w #[.slice none 0 0, .int .i64 0] 55)
  clear eR hr
  go_enter Try.func39, Try.ntmps39
  go_wp2_with fail
  refine (sDrawQ _ _ _ _ l0 hn R1.out hb hl).mono ?_
  rintro e w2 ⟨A, c, l, d, rfl, hQ, hA, hE⟩
  have E2 := Lib.hid (Ext.trans ER.out hE)
  have bR2 := Lib.hid (ext_blk hE bR.out)
  have HQ := Lib.hid hQ
  have HA := Lib.hid (hA.weak (B' := w.heap.size + 1) (by simp) (fun _ h => h))
  obtain ⟨N, hN⟩ : ∃ N, N = l.length := ⟨_, rfl⟩
  have HN := Lib.hid hN
  rw [← hN] at HA ⊢
  clear hQ hA hE hN bR ER R1 hn hb
  obtain ⟨y1, y2, y3⟩ := blk_cells bR2.out
  have q0 := y1 0
  have q1 := y1 1
  simp at q0 q1
  clear y1
  go_wp2_with fail
  refine bodyPost_ret (v := .agg #[.slice A N c, .int .i64 d]) (by clear E2 bR2 HQ HA HN; simp [results, Try.results39, go_sem, *]) rfl ⟨A, c, l, d, by rw [HN.out], HQ.out, ?_, ?_⟩
  · rw [← HN.out]
    refine AppR.weak (B := w.heap.size + 1) (X := fun _ => False) ?_ (by omega) (fun _ h => h)
    iterate 2 refine AppR.setb ?_ (by simp <;> omega) _
    exact HA.out
  · iterate 2 refine Ext.setCell_ ?_ (by simp) _
    exact E2.out
set_option maxHeartbeats 2000000 in
theorem sDrawEnq (w : World) (A0 : Option Addr) (n0 c0 : Nat) (l0 : List Int) (hn : l0.length = n0) (hr : RB w A0 c0 l0) (hb : ∀ x ∈ l0, 0 ≤ x ∧ x ≤ 255) (hl : n0 ≤ 1048576) :
    Calls Try.prog 73 #[.slice A0 n0 c0] w fun e w' => ∃ (A : Option Addr) (c : Nat) (l : List Msg) (d : Int) (m : Msg) (g : Nat) (Am : Option Addr) (cm : Nat), e = .returned (.tuple #[.agg #[.slice A l.length c, .int .i64 d], .agg #[.int .i64 m.to, .int .i64 m.cat, .int .i64 m.dl, .slice Am m.body.length cm]]) ∧ QF l d ∧ MsgP m ∧ AppR kMsg 59 w' w.heap.size (fun _ => False) (.slice A l.length c) l ∧ NewB w' w.heap.size g Am cm m.body ∧ Ext w w' := by
  have eR := Ext.trans (Ext.alloc_ w (.cells #[.slice none 0 0, .int .i64 0] 55)) (Ext.alloc_ _ (.cells #[.int .i64 0, .int .i64 0, .int .i64 0, .slice none 0 0] 59))
  have R1 := Lib.hid (hr.ext eR)
  have ER := Lib.hid eR
  have bR := Lib.hid (ext_blk (Ext.alloc_ _ (.cells #[.int .i64 0, .int .i64 0, .int .i64 0, .slice none 0 0] 59)) (new_blk1 w #[.slice none 0 0, .int .i64 0] 55))
  have bS := new_blk1 (w.alloc (.cells #[.slice none 0 0, .int .i64 0] 55)) #[.int .i64 0, .int .i64 0, .int .i64 0, .slice none 0 0] 59
  simp only [World.size_alloc] at bS
  have bS := Lib.hid bS
  clear eR hr
  go_enter Try.func73, Try.ntmps73
  go_wp2_with fail
  refine (sNew _ _ _ _ l0 hn R1.out hb hl).mono ?_
  rintro e w1 ⟨b, rfl, h1, h2, h3⟩
  have E1 := Lib.hid (Ext.trans ER.out h1)
  have C1 := Lib.hid h3
  have bR1 := Lib.hid (ext_blk h1 bR.out)
  have bS1 := Lib.hid (ext_blk h1 bS.out)
  have hbw : w.heap.size + 1 + 1 ≤ b := by simpa using h2
  have hz1 : b < w1.heap.size := h3.lt
  clear h1 h2 h3 hn hb R1 ER bR bS
  go_wp2_with fail
  refine (sQueue _ _ C1.out).mono ?_
  rintro e w2 ⟨A, c, l, d, rfl, hQ, hA, hD⟩
  have e2 := Ext.alloc_ w2 (.cells #[.slice A l.length c, .int .i64 d] 55)
  have D3 := Lib.hid (hD.ext e2)
  have bR2 := Lib.hid (ext_blk e2 (hD.blk bR1.out (by omega)))
  have bS2 := Lib.hid (ext_blk e2 (hD.blk bS1.out (by omega)))
  have bQ := Lib.hid (new_blk1 w2 #[.slice A l.length c, .int .i64 d] 55)
  have HQ := Lib.hid hQ
  have HA := Lib.hid (hA.ext e2)
  have hgq : w1.heap.size ≤ w2.heap.size := hD.1.size
  obtain ⟨N, hN⟩ : ∃ N, N = l.length := ⟨_, rfl⟩
  have HN := Lib.hid hN
  rw [← hN] at HA bQ D3 bR2 bS2 ⊢
  clear hQ hA hD hN C1 bR1 bS1 e2
  go_wp2_with fail
  generalize World.alloc w2 _ = w3 at *
  generalize w2.heap.size = gq at *
  obtain ⟨x1, x2, x3⟩ := blk_cells bQ.out
  have p0 := x1 0
  have p1 := x1 1
  simp at p0 p1
  clear x1
  refine C.wp_region_chain (R := relC b) 3 (by kernel_rfl) (by kernel_rfl) ?_
  simp only [List.take_succ_cons, List.take_zero, List.drop_succ_cons, List.drop_zero]
  · apply C.Chain.quiet (R := relC b)
    · intro vs wq hEq hd
      have b5 := XC.blk hEq bQ.out (by omega)
      obtain ⟨c1, c2, c3⟩ := blk_cells b5
      have e0 := c1 0
      have e1 := c1 1
      simp at e0 e1
      clear b5 c1 hEq hd
      (try simp only [Act.put, C.SP.pick, C.SP.is, SPC.val, SPC.ints, SPC.msg, SPC.que, id_eq, List.take_succ_cons, List.take_zero, List.drop_succ_cons, List.drop_zero, List.setIfInBounds_toArray, List.set_cons_zero, List.set_cons_succ])
      refine C.growOp_go (R := relC b) ?_
      go_simp
      exact ⟨C.Ext.refl (R := relC b) _, rfl⟩
    (apply C.Chain.quiet (R := relC b); · (intro vs wq hEq hd; clear hEq hd; (try simp only [Act.put, C.SP.pick, C.SP.is, SPC.val, SPC.ints, id_eq, List.take_succ_cons, List.take_zero, List.drop_succ_cons, List.drop_zero, List.setIfInBounds_toArray, List.set_cons_zero, List.set_cons_succ]); refine C.growOp_go (R := relC b) ?_; go_simp; exact ⟨C.Ext.refl (R := relC b) _, rfl⟩))
    refine C.Chain.sp (R := relC b) (SPC.msg b w1.heap.size hz1) ?_ ?_
    · intro vs wq hEq hd
      have hC := Lib.hid (XC.cur hEq D3.out.2)
      have hz := XC.size hEq
      have hz2 : w1.heap.size ≤ wq.heap.size := by have := D3.out.1.size; omega
      clear hd hEq
      (try simp only [Act.put, C.SP.pick, C.SP.is, SPC.val, SPC.ints, SPC.msg, SPC.que, id_eq, List.take_succ_cons, List.take_zero, List.drop_succ_cons, List.drop_zero, List.setIfInBounds_toArray, List.set_cons_zero, List.set_cons_succ])
      refine C.growOp_go (R := relC b) ?_
      go_simp
      refine (sMsg17 _ _ hC.out).mono ?_
      rintro e w6 ⟨ta, ct, dl, g, Am, cm, bl, rfl, hI, hbb, hbl, hNB, hD⟩
      exact ⟨_, rfl, XC.of_drawn hD, ta, ct, dl, g, Am, cm, bl, rfl, ⟨hbb, hbl⟩, hNB.mono hz2⟩
    refine C.Chain.done (R := relC b) ?_
    intro vs w6 hE6 hd6
    simp only [Act.put, C.SP.pick, C.SP.is, SPC.val, SPC.ints, SPC.msg, SPC.que, id_eq, List.take_succ_cons, List.take_zero, List.drop_succ_cons, List.drop_zero, List.setIfInBounds_toArray, List.set_cons_zero, List.set_cons_succ]
    obtain ⟨ta, ct, dl, g, Am, cm, bl, e3, hP, hNB⟩ := hd6 2
    rw [e3]
    have D6 := Lib.hid (Drawn.trans D3.out (XC.drawn hE6 D3.out.2))
    have bR6 := Lib.hid (XC.blk hE6 bR2.out (by omega))
    have bS6 := Lib.hid (XC.blk hE6 bS2.out (by omega))
    have HA6 := Lib.hid (HA.out.chg (XC.chg hE6) (fun y hy _ h => by omega))
    have HP := Lib.hid hP
    have HNB := Lib.hid hNB
    obtain ⟨M, hM⟩ : ∃ M, M = bl.length := ⟨_, rfl⟩
    have HM := Lib.hid hM
    rw [← hM]
    clear hd6 hE6 e3 hP hNB HA D3 bR2 bS2 bQ p0 p1 x2 x3 hM
    obtain ⟨y1, y2, y3⟩ := blk_cells bR6.out
    have q0 := y1 0
    have q1 := y1 1
    simp at q0 q1
    clear y1
    obtain ⟨v1, v2, v3⟩ := blk_cells bS6.out
    have r0 := v1 0
    have r1 := v1 1
    have r2 := v1 2
    have r3 := v1 3
    simp at r0 r1 r2 r3
    clear v1
    go_wp2_with fail
    refine bodyPost_ret (v := .tuple #[.agg #[.slice A N c, .int .i64 d], .agg #[.int .i64 ta, .int .i64 ct, .int .i64 dl, .slice Am M cm]]) (by clear E1 D6 bR6 bS6 HQ HA6 HN HP HNB HM; simp [results, Try.results73, go_sem, *]) rfl ⟨A, c, l, d, ⟨ta, ct, dl, bl⟩, g, Am, cm, by rw [HN.out, HM.out], HQ.out, HP.out, ?_, ?_, ?_⟩
    · rw [← HN.out]
      refine AppR.weak (B := w1.heap.size) (X := fun _ => False) ?_ (by omega) (fun _ h => h)
      iterate 6 refine AppR.setb ?_ (by simp <;> omega) _
      exact HA6.out
    · refine NewB.mono (B := w1.heap.size) ?_ (by omega)
      iterate 6 refine NewB.set_ ?_ (by simp <;> omega) _
      exact HNB.out
    · iterate 6 refine Ext.setCell_ ?_ (by simp <;> omega) _
      exact D6.out.1.ext E1.out (fun x hx => by omega)
end Go.Proofs.Ytkmklafjcjkpdaa
