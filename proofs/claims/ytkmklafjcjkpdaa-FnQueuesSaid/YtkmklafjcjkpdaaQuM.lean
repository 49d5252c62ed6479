/- Several texts as one. -/
import Derived.Test.YtkmklafjcjkpdaaQuQ
import Derived.Test.YtkmklafjcjkpdaaTakI
import Derived.Test.YtkmklafjcjkpdaaCur
import Derived.Test.YtkmklafjcjkpdaaTq
namespace Go.Proofs.Ytkmklafjcjkpdaa
open Go.RowKit
set_option linter.unusedVariables false
set_option linter.unusedSimpArgs false
set_option maxHeartbeats 1000000 in
theorem sDrawQ (w : World) (A0 : Option Addr) (n0 c0 : Nat) (l0 : List Int) (hn : l0.length = n0) (hr : RB w A0 c0 l0) (hb : ∀ x ∈ l0, 0 ≤ x ∧ x ≤ 255) (hl : n0 ≤ 1048576) :
    Calls Try.prog 108 #[.slice A0 n0 c0] w fun e w' => ∃ (A : Option Addr) (c : Nat) (l : List Msg) (d : Int), e = .returned (.agg #[.slice A l.length c, .int .i64 d]) ∧ QF l d ∧ AppR kMsg 59 w' w.heap.size (fun _ => False) (.slice A l.length c) l ∧ Ext w w' := by
  have eR := Ext.alloc_ w (.cells #[.slice none 0 0, .int .i64 0] 55)
  have R1 := Lib.hid (hr.ext eR)
  have ER := Lib.hid eR
  have bR := Lib.hid (new_blk1 w #[.slice none 0 0, .int .i64 0] 55)
  clear eR hr
  go_enter Try.func108, Try.ntmps108
  go_wp2_with fail
  refine (sNew _ _ _ _ l0 hn R1.out hb hl).mono ?_
  rintro e w1 ⟨b, rfl, h1, h2, h3⟩
  have E1 := Lib.hid (Ext.trans ER.out h1)
  have C1 := Lib.hid h3
  have bR1 := Lib.hid (ext_blk h1 bR.out)
  have hbw : w.heap.size + 1 ≤ b := by simpa using h2
  have hz1 : w.heap.size + 1 ≤ w1.heap.size := by have := h3.lt; omega
  clear h1 h2 h3 hn hb R1 ER bR
  go_wp2_with fail
  refine (sQueue _ _ C1.out).mono ?_
  rintro e w2 ⟨A, c, l, d, rfl, hQ, hA, hD⟩
  have E2 := Lib.hid (hD.1.ext E1.out (fun x hx => by omega))
  have bR2 := Lib.hid (hD.blk bR1.out (by omega))
  have HQ := Lib.hid hQ
  have HA := Lib.hid hA
  obtain ⟨N, hN⟩ : ∃ N, N = l.length := ⟨_, rfl⟩
  have HN := Lib.hid hN
  rw [← hN] at HA ⊢
  clear hQ hA hD hN E1 C1 bR1
  obtain ⟨y1, y2, y3⟩ := blk_cells bR2.out
  have q0 := y1 0
  have q1 := y1 1
  simp at q0 q1
  clear y1
  go_wp2_with fail
  refine bodyPost_ret (v := .agg #[.slice A N c, .int .i64 d]) (by clear E2 bR2 HQ HA HN; simp [results, Try.results108, go_sem, *]) rfl ⟨A, c, l, d, by rw [HN.out], HQ.out, ?_, ?_⟩
  · rw [← HN.out]
    refine AppR.weak (B := w1.heap.size) (X := fun _ => False) ?_ (by omega) (fun _ h => h)
    iterate 2 refine AppR.setb ?_ (by simp <;> omega) _
    exact HA.out
  · iterate 2 refine Ext.setCell_ ?_ (by simp) _
    exact E2.out
set_option maxHeartbeats 1000000 in
theorem sDrawNext (w : World) (A0 : Option Addr) (n0 c0 : Nat) (l0 : List Int) (hn : l0.length = n0) (hr : RB w A0 c0 l0) (hb : ∀ x ∈ l0, 0 ≤ x ∧ x ≤ 255) (hl : n0 ≤ 1048576) :
    Calls Try.prog 39 #[.slice A0 n0 c0] w fun e w' => ∃ (A : Option Addr) (c : Nat) (l : List Msg) (d : Int), e = .returned (.agg #[.slice A l.length c, .int .i64 d]) ∧ QF l d ∧ AppR kMsg 59 w' w.heap.size (fun _ => False) (.slice A l.length c) l ∧ Ext w w' := by
  have eR := Ext.alloc_ w (.cells #[.slice none 0 0, .int .i64 0] 55)
  have R1 := Lib.hid (hr.ext eR)
  have ER := Lib.hid eR
  have bR := Lib.hid (new_blk1 w #[.slice none 0 0, .int .i64 0] 55)
  clear eR hr
  go_enter Try.func39, Try.ntmps39
  go_wp2_with fail
  refine (sDrawQ _ _ _ _ l0 hn R1.out hb hl).mono ?_
  rintro e w2 ⟨A, c, l, d, rfl, hQ, hA, hE⟩
  have E2 := Lib.hid (Ext.trans ER.out hE)
  have bR2 := Lib.hid (ext_blk hE bR.out)
  have HQ := Lib.hid hQ
  have HA := Lib.hid (hA.weak (B' := w.heap.size + 1) (by simp) (fun _ h => h))
  obtain ⟨N, hN⟩ : ∃ N, N = l.length := ⟨_, rfl⟩
  have HN := Lib.hid hN
  rw [← hN] at HA ⊢
  clear hQ hA hE hN bR ER R1 hn hb
  obtain ⟨y1, y2, y3⟩ := blk_cells bR2.out
  have q0 := y1 0
  have q1 := y1 1
  simp at q0 q1
  clear y1
  go_wp2_with fail
  refine bodyPost_ret (v := .agg #[.slice A N c, .int .i64 d]) (by clear E2 bR2 HQ HA HN; simp [results, Try.results39, go_sem, *]) rfl ⟨A, c, l, d, by rw [HN.out], HQ.out, ?_, ?_⟩
  · rw [← HN.out]
    refine AppR.weak (B := w.heap.size + 1) (X := fun _ => False) ?_ (by omega) (fun _ h => h)
    iterate 2 refine AppR.setb ?_ (by simp <;> omega) _
    exact HA.out
  · iterate 2 refine Ext.setCell_ ?_ (by simp) _
    exact E2.out
set_option maxHeartbeats 2000000 in
theorem sDrawEnq (w : World) (A0 : Option Addr) (n0 c0 : Nat) (l0 : List Int) (hn : l0.length = n0) (hr : RB w A0 c0 l0) (hb : ∀ x ∈ l0, 0 ≤ x ∧ x ≤ 255) (hl : n0 ≤ 1048576) :
    Calls Try.prog 73 #[.slice A0 n0 c0] w fun e w' => ∃ (A : Option Addr) (c : Nat) (l : List Msg) (d : Int) (m : Msg) (g : Nat) (Am : Option Addr) (cm : Nat), e = .returned (.tuple #[.agg #[.slice A l.length c, .int .i64 d], .agg #[.int .i64 m.to, .int .i64 m.cat, .int .i64 m.dl, .slice Am m.body.length cm]]) ∧ QF l d ∧ MsgP m ∧ AppR kMsg 59 w' w.heap.size (fun _ => False) (.slice A l.length c) l ∧ NewB w' w.heap.size g Am cm m.body ∧ Ext w w' := by
  have eR := Ext.trans (Ext.alloc_ w (.cells #[.slice none 0 0, .int .i64 0] 55)) (Ext.alloc_ _ (.cells #[.int .i64 0, .int .i64 0, .int .i64 0, .slice none 0 0] 59))
  have R1 := Lib.hid (hr.ext eR)
  have ER := Lib.hid eR
  have bR := Lib.hid (ext_blk (Ext.alloc_ _ (.cells #[.int .i64 0, .int .i64 0, .int .i64 0, .slice none 0 0] 59)) (new_blk1 w #[.slice none 0 0, .int .i64 0] 55))
  have bS := new_blk1 (w.alloc (.cells #[.slice none 0 0, .int .i64 0] 55)) #[.int .i64 0, .int .i64 0, .int .i64 0, .slice none 0 0] 59
  simp only [World.size_alloc] at bS
  have bS := Lib.hid bS
  clear eR hr
  go_enter Try.func73, Try.ntmps73
  go_wp2_with fail
  refine (sNew _ _ _ _ l0 hn R1.out hb hl).mono ?_
  rintro e w1 ⟨b, rfl, h1, h2, h3⟩
  have E1 := Lib.hid (Ext.trans ER.out h1)
  have C1 := Lib.hid h3
  have bR1 := Lib.hid (ext_blk h1 bR.out)
  have bS1 := Lib.hid (ext_blk h1 bS.out)
  have hbw : w.heap.size + 1 + 1 ≤ b := by simpa using h2
  have hz1 : b < w1.heap.size := h3.lt
  clear h1 h2 h3 hn hb R1 ER bR bS
  go_wp2_with fail
  refine (sQueue _ _ C1.out).mono ?_
  rintro e w2 ⟨A, c, l, d, rfl, hQ, hA, hD⟩
  have e2 := Ext.alloc_ w2 (.cells #[.slice A l.length c, .int .i64 d] 55)
  have D3 := Lib.hid (hD.ext e2)
  have bR2 := Lib.hid (ext_blk e2 (hD.blk bR1.out (by omega)))
  have bS2 := Lib.hid (ext_blk e2 (hD.blk bS1.out (by omega)))
  have bQ := Lib.hid (new_blk1 w2 #[.slice A l.length c, .int .i64 d] 55)
  have HQ := Lib.hid hQ
  have HA := Lib.hid (hA.ext e2)
  have hgq : w1.heap.size ≤ w2.heap.size := hD.1.size
  obtain ⟨N, hN⟩ : ∃ N, N = l.length := ⟨_, rfl⟩
  have HN := Lib.hid hN
  rw [← hN] at HA bQ D3 bR2 bS2 ⊢
  clear hQ hA hD hN C1 bR1 bS1 e2
  go_wp2_with fail
  generalize World.alloc w2 _ = w3 at *
  generalize w2.heap.size = gq at *
  obtain ⟨x1, x2, x3⟩ := blk_cells bQ.out
  have p0 := x1 0
  have p1 := x1 1
  simp at p0 p1
  clear x1
  refine C.wp_region_chain (R := relC b) 3 (by kernel_rfl) (by kernel_rfl) ?_
  simp only [List.take_succ_cons, List.take_zero, List.drop_succ_cons, List.drop_zero]
  · apply C.Chain.quiet (R := relC b)
    · intro vs wq hEq hd
      have b5 := XC.blk hEq bQ.out (by omega)
      obtain ⟨c1, c2, c3⟩ := blk_cells b5
      have e0 := c1 0
      have e1 := c1 1
      simp at e0 e1
      clear b5 c1 hEq hd
      (try simp only [Act.put, C.SP.pick, C.SP.is, SPC.val, SPC.ints, SPC.msg, SPC.que, id_eq, List.take_succ_cons, List.take_zero, List.drop_succ_cons, List.drop_zero, List.setIfInBounds_toArray, List.set_cons_zero, List.set_cons_succ])
      refine C.growOp_go (R := relC b) ?_
      go_simp
      exact ⟨C.Ext.refl (R := relC b) _, rfl⟩
    (apply C.Chain.quiet (R := relC b); · (intro vs wq hEq hd; clear hEq hd; (try simp only [Act.put, C.SP.pick, C.SP.is, SPC.val, SPC.ints, id_eq, List.take_succ_cons, List.take_zero, List.drop_succ_cons, List.drop_zero, List.setIfInBounds_toArray, List.set_cons_zero, List.set_cons_succ]); refine C.growOp_go (R := relC b) ?_; go_simp; exact ⟨C.Ext.refl (R := relC b) _, rfl⟩))
    refine C.Chain.sp (R := relC b) (SPC.msg b w1.heap.size hz1) ?_ ?_
    · intro vs wq hEq hd
      have hC := Lib.hid (XC.cur hEq D3.out.2)
      have hz := XC.size hEq
      have hz2 : w1.heap.size ≤ wq.heap.size := by have := D3.out.1.size; omega
      clear hd hEq
      (try simp only [Act.put, C.SP.pick, C.SP.is, SPC.val, SPC.ints, SPC.msg, SPC.que, id_eq, List.take_succ_cons, List.take_zero, List.drop_succ_cons, List.drop_zero, List.setIfInBounds_toArray, List.set_cons_zero, List.set_cons_succ])
      refine C.growOp_go (R := relC b) ?_
      go_simp
      refine (sMsg17 _ _ hC.out).mono ?_
      rintro e w6 ⟨ta, ct, dl, g, Am, cm, bl, rfl, hI, hbb, hbl, hNB, hD⟩
      exact ⟨_, rfl, XC.of_drawn hD, ta, ct, dl, g, Am, cm, bl, rfl, ⟨hbb, hbl⟩, hNB.mono hz2⟩
    refine C.Chain.done (R := relC b) ?_
    intro vs w6 hE6 hd6
    simp only [Act.put, C.SP.pick, C.SP.is, SPC.val, SPC.ints, SPC.msg, SPC.que, id_eq, List.take_succ_cons, List.take_zero, List.drop_succ_cons, List.drop_zero, List.setIfInBounds_toArray, List.set_cons_zero, List.set_cons_succ]
    obtain ⟨ta, ct, dl, g, Am, cm, bl, e3, hP, hNB⟩ := hd6 2
    rw [e3]
    have D6 := Lib.hid (Drawn.trans D3.out (XC.drawn hE6 D3.out.2))
    have bR6 := Lib.hid (XC.blk hE6 bR2.out (by omega))
    have bS6 := Lib.hid (XC.blk hE6 bS2.out (by omega))
    have HA6 := Lib.hid (HA.out.chg (XC.chg hE6) (fun y hy _ h => by omega))
    have HP := Lib.hid hP
    have HNB := Lib.hid hNB
    obtain ⟨M, hM⟩ : ∃ M, M = bl.length := ⟨_, rfl⟩
    have HM := Lib.hid hM
    rw [← hM]
    clear hd6 hE6 e3 hP hNB HA D3 bR2 bS2 bQ p0 p1 x2 x3 hM
    obtain ⟨y1, y2, y3⟩ := blk_cells bR6.out
    have q0 := y1 0
    have q1 := y1 1
    simp at q0 q1
    clear y1
    obtain ⟨v1, v2, v3⟩ := blk_cells bS6.out
    have r0 := v1 0
    have r1 := v1 1
    have r2 := v1 2
    have r3 := v1 3
    simp at r0 r1 r2 r3
    clear v1
    go_wp2_with fail
    refine bodyPost_ret (v := .tuple #[.agg #[.slice A N c, .int .i64 d], .agg #[.int .i64 ta, .int .i64 ct, .int .i64 dl, .slice Am M cm]]) (by clear E1 D6 bR6 bS6 HQ HA6 HN HP HNB HM; simp [results, Try.results73, go_sem, *]) rfl ⟨A, c, l, d, ⟨ta, ct, dl, bl⟩, g, Am, cm, by rw [HN.out, HM.out], HQ.out, HP.out, ?_, ?_, ?_⟩
    · rw [← HN.out]
      refine AppR.weak (B := w1.heap.size) (X := fun _ => False) ?_ (by omega) (fun _ h => h)
      iterate 6 refine AppR.setb ?_ (by simp <;> omega) _
      exact HA6.out
    · refine NewB.mono (B := w1.heap.size) ?_ (by omega)
      iterate 6 refine NewB.set_ ?_ (by simp <;> omega) _
      exact HNB.out
    · iterate 6 refine Ext.setCell_ ?_ (by simp <;> omega) _
      exact D6.out.1.ext E1.out (fun x hx => by omega)
theorem sameB_ (w : World) (A A' : Option Addr) (n c c' : Nat) (l : List Int) (hn : l.length = n) (h : RB w A c l) (h' : RB w A' c' l) (hl : n ≤ 1048576) :
    Calls Try.prog 86 #[.slice A n c, .slice A' n c'] w fun e w' => e = .returned (.bool true) ∧ Ext w w' := by
  have H1 := Lib.hid h
  have H2 := Lib.hid h'
  have HN := Lib.hid hn
  clear h h' hn
  go_enter Try.func86, Try.ntmps86
  go_wp2_with fail
  go_loopw [5] (fun i wr => ∃ k : Nat, k ≤ n ∧ i = .int .i64 k ∧ Hid (Ext w wr)) (fun i _ => n - (intOf i).toNat)
  case atStart => exact ⟨0, Nat.zero_le _, rfl, Lib.hid (Ext.refl _)⟩
  case round =>
    obtain ⟨k, hk, rfl, hE⟩ := hrel
    by_cases hlt : k < n
    · have hkl : k < l.length := by rw [HN.out]; exact hlt
      obtain ⟨b1, o1, rfl, h5, h6⟩ := (H1.out.ext hE.out).at_ hkl
      obtain ⟨b2, o2, rfl, h7, h8⟩ := (H2.out.ext hE.out).at_ hkl
      generalize l[k] = z at *
      have hlt' : (k : Int) < (n : Int) := by omega
      have hk0 : (0 : Int) ≤ (k : Int) := by omega
      go_wp2_with fail
      refine wp_region_chain 9 (by kernel_rfl) (by kernel_rfl) ?_
      simp only [List.take_succ_cons, List.take_zero, List.drop_succ_cons, List.drop_zero]
      repeat (apply Chain.quiet; · (intro vs wq hEq hd; obtain ⟨hcq, hfq⟩ := bcell hEq; clear hEq hd; (try simp only [Act.put, SP.pick, SP.is, SP.box, id_eq, List.take_succ_cons, List.take_zero, List.drop_succ_cons, List.drop_zero, List.setIfInBounds_toArray, List.set_cons_zero, List.set_cons_succ]); refine growOp_go ?_; go_simp; first | exact ⟨Ext.refl _, rfl⟩ | exact rfl | (split; (exfalso; omega); (first | exact ⟨Ext.refl _, rfl⟩ | exact rfl)) | (split; (first | exact ⟨Ext.refl _, rfl⟩ | exact rfl); (exfalso; omega))))
      refine Chain.done ?_
      intro vs w4 hE4 hd4
      simp only [Act.put, SP.pick, SP.is, SP.box, id_eq, List.take_succ_cons, List.take_zero, List.drop_succ_cons, List.drop_zero, List.setIfInBounds_toArray, List.set_cons_zero, List.set_cons_succ]
      clear hd4
      have E4 := Lib.hid (Ext.trans hE.out hE4)
      clear hE4
      go_wp2_with fail
      go_roundw
      case rel => exact ⟨k + 1, by omega, by go_num, E4⟩
      case measure => simp [intOf]; omega
    · obtain rfl : k = n := by omega
      go_wp2_with fail
      go_ret
      exact ⟨rfl, hE.out⟩
theorem sameM_ (w : World) (ta ct dl : Int) (A A' : Option Addr) (n c c' : Nat) (l : List Int) (hn : l.length = n) (h : RB w A c l) (h' : RB w A' c' l) (hl : n ≤ 1048576) :
    Calls Try.prog 43 #[.agg #[.int .i64 ta, .int .i64 ct, .int .i64 dl, .slice A n c], .agg #[.int .i64 ta, .int .i64 ct, .int .i64 dl, .slice A' n c']] w fun e w' => e = .returned (.bool true) ∧ Ext w w' := by
  have e2 := Ext.trans (Ext.alloc_ w (.cells #[.int .i64 ta, .int .i64 ct, .int .i64 dl, .slice A n c] 59)) (Ext.alloc_ _ (.cells #[.int .i64 ta, .int .i64 ct, .int .i64 dl, .slice A' n c'] 59))
  have H1 := Lib.hid (h.ext e2)
  have H2 := Lib.hid (h'.ext e2)
  have E2 := Lib.hid e2
  clear h h' e2
  go_enter Try.func43, Try.ntmps43
  go_wp2_with fail
  refine (sameB_ _ _ _ _ _ _ l hn H1.out H2.out hl).mono ?_
  rintro e w3 ⟨rfl, h3⟩
  have E3 := Lib.hid (Ext.trans E2.out h3)
  clear h3
  go_wp2_with fail
  go_ret
  exact ⟨rfl, E3.out⟩
theorem sameMs_ (w : World) (A A' : Option Addr) (n c c' : Nat) (l : List Msg) (hn : l.length = n) (h : Els w A 4 (kE kMsg) l) (h' : Els w A' 4 (kE kMsg) l) (hb : ∀ m ∈ l, m.body.length ≤ 1048576) (hl : n ≤ 1048576) :
    Calls Try.prog 79 #[.slice A n c, .slice A' n c'] w fun e w' => e = .returned (.bool true) ∧ Ext w w' := by
  have H1 := Lib.hid h
  have H2 := Lib.hid h'
  have HN := Lib.hid hn
  have HB := Lib.hid hb
  clear h h' hn hb
  go_enter Try.func79, Try.ntmps79
  go_wp2_with fail
  go_loopw [5] (fun i wr => ∃ k : Nat, k ≤ n ∧ i = .int .i64 k ∧ Hid (Ext w wr)) (fun i _ => n - (intOf i).toNat)
  case atStart => exact ⟨0, Nat.zero_le _, rfl, Lib.hid (Ext.refl _)⟩
  case round =>
    obtain ⟨k, hk, rfl, hE⟩ := hrel
    by_cases hlt : k < n
    · have hkl : k < l.length := by rw [HN.out]; exact hlt
      have hbl := HB.out _ (List.getElem_mem hkl)
      obtain ⟨b1, o1, rfl, h5, h6⟩ := (els_up H1.out hE.out).at_ (List.ne_nil_of_length_pos (by omega))
      obtain ⟨b2, o2, rfl, h7, h8⟩ := (els_up H2.out hE.out).at_ (List.ne_nil_of_length_pos (by omega))
      obtain ⟨B1, cB1, hR1, k0, k1, k2, k3⟩ := els_msg h6 k hkl
      obtain ⟨B2, cB2, hR2, m0, m1, m2, m3⟩ := els_msg h8 k hkl
      have R1 := Lib.hid hR1
      have R2 := Lib.hid hR2
      clear h6 h8 hR1 hR2
      generalize l[k] = z at *
      have hlt' : (k : Int) < (n : Int) := by omega
      have hk0 : (0 : Int) ≤ (k : Int) := by omega
      go_wp2_with fail
      refine wp_region_chain 10 (by kernel_rfl) (by kernel_rfl) ?_
      simp only [List.take_succ_cons, List.take_zero, List.drop_succ_cons, List.drop_zero]
      repeat (first | (apply Chain.quiet; · (intro vs wq hEq hd; obtain ⟨hcq, hfq⟩ := bcell hEq; clear hEq hd; (try simp only [Act.put, SP.pick, SP.is, SP.box, id_eq, List.take_succ_cons, List.take_zero, List.drop_succ_cons, List.drop_zero, List.setIfInBounds_toArray, List.set_cons_zero, List.set_cons_succ]); refine growOp_go ?_; go_simp; first | exact ⟨Ext.refl _, rfl⟩ | exact rfl | (split; (exfalso; omega); (first | exact ⟨Ext.refl _, rfl⟩ | exact rfl)) | (split; (first | exact ⟨Ext.refl _, rfl⟩ | exact rfl); (exfalso; omega)))) | (apply Chain.quiet; · (intro vs wq hEq hd; have hR1 := Lib.hid (R1.out.ext hEq); have hR2 := Lib.hid (R2.out.ext hEq); clear hEq hd; (try simp only [Act.put, SP.pick, SP.is, SP.box, id_eq, List.take_succ_cons, List.take_zero, List.drop_succ_cons, List.drop_zero, List.setIfInBounds_toArray, List.set_cons_zero, List.set_cons_succ]); refine growOp_go ?_; go_simp; refine (sameM_ _ _ _ _ _ _ _ _ _ _ rfl hR1.out hR2.out hbl).mono ?_; rintro e w5 ⟨rfl, hb⟩; first | exact ⟨rfl, hb⟩ | exact ⟨_, rfl, hb, rfl⟩)))
      refine Chain.done ?_
      intro vs w4 hE4 hd4
      simp only [Act.put, SP.pick, SP.is, SP.box, id_eq, List.take_succ_cons, List.take_zero, List.drop_succ_cons, List.drop_zero, List.setIfInBounds_toArray, List.set_cons_zero, List.set_cons_succ]
      clear hd4
      have E4 := Lib.hid (Ext.trans hE.out hE4)
      clear hE4
      go_wp2_with fail
      go_roundw
      case rel => exact ⟨k + 1, by omega, by go_num, E4⟩
      case measure => simp [intOf]; omega
    · obtain rfl : k = n := by omega
      go_wp2_with fail
      go_ret
      exact ⟨rfl, hE.out⟩
theorem nxt_best (l : List Msg) : ∀ k, k ≤ l.length → 0 < k → ∃ b : Nat, ∃ hb : b < l.length, b < k ∧ nxt l k = b ∧ ∀ i (hi : i < l.length), i < k → l[i].cat ≤ l[b].cat ∧ (i < b → l[i].cat < l[b].cat)
  | 0, _, h => absurd h (by omega)
  | k + 1, hk, _ => by
    have hk' : k < l.length := by omega
    rcases Nat.eq_zero_or_pos k with h0 | h0
    · subst h0
      refine ⟨0, by omega, by omega, nxt_neg l 0 (by omega) (by simp [nxt]), fun i hi h => ?_⟩
      obtain rfl : i = 0 := by omega
      exact ⟨Int.le_refl _, fun h => by omega⟩
    · obtain ⟨b, hb, hbk, e, h⟩ := nxt_best l k (by omega) h0
      by_cases hc : l[b].cat < l[k].cat
      · refine ⟨k, hk', by omega, nxt_gt l k b hk' hb e hc, fun i hi h1 => ?_⟩
        by_cases hik : i = k
        · subst hik; exact ⟨Int.le_refl _, fun h => by omega⟩
        · have := (h i hi (by omega)).1
          exact ⟨by omega, fun _ => by omega⟩
      · refine ⟨b, hb, by omega, nxt_le l k b hk' hb e hc, fun i hi h1 => ?_⟩
        by_cases hik : i = k
        · subst hik; exact ⟨by omega, fun h => by omega⟩
        · exact h i hi (by omega)
theorem wst_min (l : List Msg) : ∀ k, k ≤ l.length → ∀ i, i < k → catAt l (wst l k) ≤ catAt l i
  | 0, _, i, h => by omega
  | k + 1, hk, i, hi => by
    have ih := wst_min l k (by omega)
    unfold wst
    split
    · by_cases hik : i = k
      · subst hik; exact Int.le_refl _
      · have := ih i (by omega); omega
    · by_cases hik : i = k
      · subst hik; omega
      · exact ih i (by omega)
theorem cnt_erase (ca : Int) : ∀ (l : List Msg) (i : Nat) (hi : i < l.length), cntM l ca = cntM (l.eraseIdx i) ca + (if l[i].cat = ca then 1 else 0)
  | [], i, hi => by simp at hi
  | a :: l, 0, hi => by
    simp only [cntM, List.countP_cons, List.eraseIdx_cons_zero, List.getElem_cons_zero, beq_iff_eq]
  | a :: l, i + 1, hi => by
    have h := cnt_erase ca l i (by simpa using hi)
    simp only [cntM, List.countP_cons, List.eraseIdx_cons_succ, List.getElem_cons_succ, beq_iff_eq] at h ⊢
    omega
theorem cnt_app (ca : Int) (l : List Msg) (m : Msg) : cntM (l ++ [m]) ca = cntM l ca + (if m.cat = ca then 1 else 0) := by
  simp [cntM, List.countP_append, List.countP_cons]
theorem cnt_zero {ca : Int} {l : List Msg} (h : ∀ m ∈ l, ca < m.cat) : cntM l ca = 0 := by
  unfold cntM
  rw [List.countP_eq_zero]
  intro m hm
  have := h m hm
  simp
  omega
theorem okM_cat {m : Msg} (h : okM m = true) : 0 ≤ m.cat ∧ m.cat ≤ 3 := by
  unfold okM msgB at h
  simp only [Bool.and_eq_true] at h
  exact inB_true h.1.1.2
/-- A full queue loses one message of the least urgent category. -/
theorem enq_full {l : List Msg} {d : Int} {m : Msg} (hq : okQ l d = true) (hm : okM m = true) (hl : ¬ l.length < 12) (hd : d ≤ 1000) :
    enqD l d m = d + 1 ∧ (enqL l d m).length = l.length ∧ okQ (enqL l d m) (enqD l d m) = true ∧ ∃ c : Int, (0 ≤ c ∧ c ≤ 3) ∧ ∀ ca, cntM l ca + (if m.cat = ca then 1 else 0) = cntM (enqL l d m) ca + (if c = ca then 1 else 0) ∧ (ca < c → cntM (enqL l d m) ca = 0) := by
  have h12 : l.length = 12 := by have := okQ_len hq; omega
  have hb : (okQ l d && okM m) = true := by rw [hq, hm]; rfl
  have hD : enqD l d m = d + 1 := by
    have h0 : 0 ≤ d := by simp [okQ] at hq; omega
    unfold enqD
    rw [if_pos hb, if_neg (by omega)]
    unfold wrap64
    omega
  have hL : enqL l d m = (l ++ [m]).eraseIdx (wst (l ++ [m]) (l.length + 1)) := by unfold enqL; rw [if_pos hb, if_neg (by omega)]
  have hlen : (l ++ [m]).length = l.length + 1 := by simp
  have hw := wst_lt (l ++ [m]) (by omega) (l.length + 1) (by omega)
  have hmin := wst_min (l ++ [m]) (l.length + 1) (by omega)
  generalize wst (l ++ [m]) (l.length + 1) = k at *
  have hall : ∀ x ∈ l ++ [m], okM x = true := by
    intro x hx
    rcases List.mem_append.1 hx with h | h
    · simp only [okQ, Bool.and_eq_true, List.all_eq_true] at hq
      exact hq.1.1 x h
    · simp at h; subst h; exact hm
  have hsub : ((l ++ [m]).eraseIdx k).Sublist (l ++ [m]) := List.eraseIdx_sublist _ _
  refine ⟨hD, by rw [hL, List.length_eraseIdx_of_lt hw]; omega, ?_, (l ++ [m])[k].cat, okM_cat (hall _ (List.getElem_mem hw)), fun ca => ⟨?_, fun hlt => ?_⟩⟩
  · rw [hL, hD]
    have h1 : ((l ++ [m]).eraseIdx k).all okM = true := by
      rw [List.all_eq_true]
      intro x hx
      exact hall x (hsub.subset hx)
    have h0 : 0 ≤ d := by simp [okQ] at hq; omega
    unfold okQ
    rw [h1, List.length_eraseIdx_of_lt hw, decide_eq_true (by omega), decide_eq_true (by omega)]
    rfl
  · rw [hL, ← cnt_app, cnt_erase ca _ k hw]
  · rw [hL]
    refine cnt_zero fun x hx => ?_
    obtain ⟨i, hi, rfl⟩ := List.getElem_of_mem (hsub.subset hx)
    have := hmin i (by omega)
    rw [catAt_get hw, catAt_get hi] at this
    omega
theorem enq_room {l : List Msg} {d : Int} {m : Msg} (hq : okQ l d = true) (hm : okM m = true) (hl : l.length < 12) :
    enqD l d m = d ∧ enqL l d m = l ++ [m] ∧ okQ (enqL l d m) (enqD l d m) = true := by
  have hb : (okQ l d && okM m) = true := by rw [hq, hm]; rfl
  have hD : enqD l d m = d := by unfold enqD; rw [if_pos hb, if_pos (by omega)]
  have hL : enqL l d m = l ++ [m] := by unfold enqL; rw [if_pos hb, if_pos (by omega)]
  refine ⟨hD, hL, ?_⟩
  rw [hL, hD]
  simp only [okQ, Bool.and_eq_true, decide_eq_true_eq] at hq ⊢
  refine ⟨⟨?_, by simp; omega⟩, hq.2⟩
  rw [List.all_append, hq.1.1]
  simp [hm]
theorem enq_bad {l : List Msg} {d : Int} {m : Msg} (h : (okQ l d && okM m) = false) : enqL l d m = l ∧ enqD l d m = d := by
  unfold enqL enqD
  rw [h]
  exact ⟨rfl, rfl⟩
theorem incN_eq (d : Int) : ∀ n : Nat, -1 ≤ d ∧ d + n ≤ 1000000 → incN d n = d + n
  | 0, h => by simp [incN]
  | n + 1, h => by
    unfold incN
    rw [incN_eq d n (by omega)]
    have : wrap64 (d + n + 1) = d + n + 1 := by unfold wrap64; omega
    rw [this]
    omega
theorem keep_cnt (now : Int) (l : List Msg) : (keepM now l).length + l.countP (fun m => decide (m.dl < now)) = l.length := by
  induction l with
  | nil => rfl
  | cons a l ih =>
    unfold keepM at ih ⊢
    by_cases h : a.dl < now <;> simp [h, List.filter_cons, List.countP_cons] at ih ⊢ <;> omega
theorem drop_keep {now d : Int} {l : List Msg} (h : -1 ≤ d ∧ d ≤ 1000) (hl : l.length ≤ 1000) : dropM now d l - d = (l.length : Int) - (keepM now l).length := by
  have h1 := keep_cnt now l
  unfold dropM
  rw [incN_eq d _ (by omega)]
  omega
theorem keep_dl {now : Int} {l : List Msg} {k : Nat} (hk : k < (keepM now l).length) : ¬ (keepM now l)[k].dl < now := by
  have h := (List.mem_filter.1 (show (keepM now l)[k] ∈ l.filter (fun m => !decide (m.dl < now)) from List.getElem_mem hk)).2
  simpa using h
end Go.Proofs.Ytkmklafjcjkpdaa
