/- Several texts as one. -/
import Derived.Test.YtkmklafjcjkpdaaQuM
import Derived.Test.YtkmklafjcjkpdaaEnqI
import Derived.Test.YtkmklafjcjkpdaaEnqA
import Derived.Test.YtkmklafjcjkpdaaLs
import Derived.Test.YtkmklafjcjkpdaaG17
namespace Go.Proofs.Ytkmklafjcjkpdaa
open Go.RowKit
set_option linter.unusedVariables false
set_option linter.unusedSimpArgs false
set_option maxRecDepth 8000 in
set_option maxHeartbeats 4000000 in
theorem iEnqA (w : World) (A : Option Addr) (n c : Nat) (d : Int) (l : List Msg) (m : Msg) (Am : Option Addr) (cm : Nat) (hn : l.length = n) (hM : Els w A 4 (kE kMsg) l) (hb : ∀ m ∈ l, m.body.length ≤ 1048576) (hl : n ≤ 1048576) (hr : RB w Am cm m.body) (hbm : m.body.length ≤ 1048576) :
    Calls Try.prog 74 #[.agg #[.slice A n c, .int .i64 d], .agg #[.int .i64 m.to, .int .i64 m.cat, .int .i64 m.dl, .slice Am m.body.length cm]] w fun e w' => ∃ A' c', e = .returned (.agg #[.slice A' (enqL l d m).length c', .int .i64 (enqD l d m)]) ∧ Ext w w' ∧ AppR kMsg 59 w' w.heap.size (fun _ => False) (.slice A' (enqL l d m).length c') (enqL l d m) := by
  have E0 := Lib.hid (Ext.trans (Ext.trans (Ext.alloc_ w (.cells #[.slice A n c, .int .i64 d] 55)) (Ext.alloc_ _ (.cells #[.int .i64 m.to, .int .i64 m.cat, .int .i64 m.dl, .slice Am m.body.length cm] 59))) (Ext.alloc_ _ (.cells #[.slice none 0 0, .int .i64 0] 55)))
  have b1 := Lib.hid (ext_blk (Ext.trans (Ext.alloc_ _ (.cells #[.int .i64 m.to, .int .i64 m.cat, .int .i64 m.dl, .slice Am m.body.length cm] 59)) (Ext.alloc_ _ (.cells #[.slice none 0 0, .int .i64 0] 55))) (new_blk1 w #[.slice A n c, .int .i64 d] 55))
  have b2 := Lib.hid (ext_blk (Ext.alloc_ _ (.cells #[.slice none 0 0, .int .i64 0] 55)) (new_blk2 w (.cells #[.slice A n c, .int .i64 d] 55) #[.int .i64 m.to, .int .i64 m.cat, .int .i64 m.dl, .slice Am m.body.length cm] 59))
  have b3 := Lib.hid (new_blk3 w (.cells #[.slice A n c, .int .i64 d] 55) (.cells #[.int .i64 m.to, .int .i64 m.cat, .int .i64 m.dl, .slice Am m.body.length cm] 59) #[.slice none 0 0, .int .i64 0] 55)
  have N1 := Lib.hid hn
  have M3 := Lib.hid (els_up hM E0.out)
  have R3 := Lib.hid (hr.ext E0.out)
  have D1 := Lib.hid hb
  have K1 := Lib.hid hl
  have BM := Lib.hid hbm
  clear hn hM hb hl hr hbm
  by_cases hq : okQ l d = true
  · have hq' := Lib.hid hq
    by_cases hm : okM m = true
    · have hm' := Lib.hid (show msgB m.to m.cat m.dl m.body.length = true by simpa [okM] using hm)
      have hok := Lib.hid (show (okQ l d && okM m) = true by rw [hq, hm]; rfl)
      have h12 := Lib.hid (okQ_len hq)
      clear hq hm
      go_enter Try.func74, Try.ntmps74
      go_wp2_with fail
      refine (iCopyQ _ _ _ _ _ l N1.out M3.out D1.out K1.out).mono ?_
      rintro e w1 ⟨A1, c1, rfl, h1, hA1⟩
      have E1 := Lib.hid (Ext.trans E0.out h1)
      have H1 := Lib.hid h1
      have F1 := Lib.hid ((hA1.addX.ext (Ext.alloc_ w1 (.cells #[.slice A1 n c1, .int .i64 d] 55))).weak (B' := w.heap.size + 1 + 1 + 1) (X' := fun x => x = w1.heap.size) (by simp) (fun x hx => by rw [hx]; exact Nat.le_refl _))
      have bo := Lib.hid (new_blk1 w1 #[.slice A1 n c1, .int .i64 d] 55)
      have E2 := Lib.hid (Ext.trans h1 (Ext.alloc_ w1 (.cells #[.slice A1 n c1, .int .i64 d] 55)))
      obtain ⟨x1, x2, x3⟩ := blk_cells (ext_blk h1 b1.out)
      have z1 := Lib.hid (show w.heap.size + 1 + 1 + 1 ≤ w1.heap.size by have := h1.size; simpa using this)
      clear h1 hA1
      go_wp2_with fail
      refine (iQueOk _ _ _ _ _ l N1.out (els_up M3.out E2.out) (by have := K1.out; omega)).mono ?_
      rintro e w2 ⟨rfl, h2⟩
      have F2 := Lib.hid h2
      clear h2 x1 x2 x3
      rw [hq'.out]
      obtain ⟨x1, x2, x3⟩ := blk_cells (ext_blk (Ext.trans E2.out F2.out) b2.out)
      go_wp2_with fail
      refine (iMsgOk _ _ _ _ _ _ _).mono ?_
      rintro e w3 ⟨rfl, h3⟩
      rw [hm'.out]
      have F3 := Lib.hid (Ext.trans F2.out h3)
      clear h3 x1 x2 x3
      obtain ⟨x1, x2, x3⟩ := blk_cells (ext_blk (Ext.trans E2.out F3.out) b2.out)
      have n12 : n ≤ 12 := by have := h12.out; have := N1.out; omega
      obtain ⟨z1', z2, z3⟩ := blk_cells (ext_blk F3.out bo.out)
      have r0 := z1' 0
      have r1 := z1' 1
      have s0 := x1 0
      have s1 := x1 1
      have s2 := x1 2
      have s3 := x1 3
      simp at r0 r1 s0 s1 s2 s3
      clear x1 z1'
      go_wp2_with fail
      refine wp_region_chain 5 (by kernel_rfl) (by kernel_rfl) ?_
      simp only [List.take_succ_cons, List.take_zero, List.drop_succ_cons, List.drop_zero]
      repeat (apply Chain.quiet; · (intro vs wq hEq hd; obtain ⟨hcq, hfq⟩ := bcell hEq; clear hEq hd; (try simp only [Act.put, SP.pick, SP.is, SP.box, id_eq, List.take_succ_cons, List.take_zero, List.drop_succ_cons, List.drop_zero, List.setIfInBounds_toArray, List.set_cons_zero, List.set_cons_succ]); refine growOp_go ?_; go_simp; exact ⟨Ext.refl _, rfl⟩))
      refine Chain.sp (SP.msgC w3.heap.size m.to m.cat m.dl m.body) ?_ ?_
      · intro vs wq hEq hd
        clear hd
        (try simp only [Act.put, SP.pick, SP.is, SP.box, id_eq, List.take_succ_cons, List.take_zero, List.drop_succ_cons, List.drop_zero, List.setIfInBounds_toArray, List.set_cons_zero, List.set_cons_succ])
        refine growOp_go ?_
        go_simp
        refine (iMsgC _ _ _ _ _ _ _ m.body rfl (R3.out.ext (Ext.trans (Ext.trans E2.out F3.out) hEq)) (by have := BM.out; omega)).mono ?_
        rintro e w6 ⟨g6, A6, c6, rfl, hE6, hN6⟩
        exact ⟨_, rfl, hE6, g6, A6, c6, rfl, hN6.mono hEq.size⟩
      refine Chain.sp (SP.msgL w3.heap.size m.to m.cat m.dl m.body) ?_ ?_
      · intro vs wq hEq hd
        obtain ⟨g7, A7, c7, e7, N7⟩ := hd 3 (by kernel_rfl)
        have N7' := Lib.hid N7
        clear hd N7
        simp only [Act.put, SP.pick, SP.is, SP.box, id_eq, List.take_succ_cons, List.take_zero, List.drop_succ_cons, List.drop_zero, List.setIfInBounds_toArray, List.set_cons_zero, List.set_cons_succ]
        rw [e7]
        refine growOp_go ?_
        clear e7
        go_simp
        refine ⟨Ext.alloc_ _ _, wq.heap.size, g7, A7, c7, rfl, N7'.out.ext (Ext.alloc_ _ _), ?_⟩
        exact cel_lit wq 59 #[.int .i64 m.to, .int .i64 m.cat, .int .i64 m.dl, .slice A7 m.body.length c7]
      refine Chain.done ?_
      intro vs w4 hE4 hd4
      simp only [Act.put, SP.pick, SP.is, SP.box, id_eq, List.take_succ_cons, List.take_zero, List.drop_succ_cons, List.drop_zero, List.setIfInBounds_toArray, List.set_cons_zero, List.set_cons_succ]
      obtain ⟨G5, g', A', c', e5, N5, L5⟩ := hd4 4
      rw [e5]
      have F4 := Lib.hid (Ext.trans F3.out hE4)
      have bo4 := Lib.hid (ext_blk F4.out bo.out)
      have hL := Lib.hid L5
      have hel := Lib.hid ((N5.mono (B' := w.heap.size + 1 + 1 + 1) (by have h1 := E2.out.size; have h2 := F3.out.size; simp at h1 h2; omega)).el (K := kMsg) (x := m))
      have hgg := Lib.hid (show (w1.alloc (.cells #[.slice A1 n c1, .int .i64 d] 55)).heap.size ≤ g' from Nat.le_trans F3.out.size N5.2.2.1)
      have hone := Lib.hid (msg_one m A' m.body.length c')
      have hsz := Lib.hid (show w.heap.size + 1 + 1 + 1 ≤ w4.heap.size by have h1 := E2.out.size; have h2 := F4.out.size; simp at h1 h2; omega)
      have hG := Lib.hid F4.out
      clear hd4 e5 N5 L5 hE4 x2 x3 z2 z3 r0 r1 s0 s1 s2 s3
      refine wpPush (K := kMsg) (.tmp 21) (.tmp 24) elMsg rfl rfl (w.heap.size + 1 + 1 + 1) (w1 := ((w.alloc (.cells #[.slice A n c, .int .i64 d] 55)).alloc (.cells #[.int .i64 m.to, .int .i64 m.cat, .int .i64 m.dl, .slice Am m.body.length cm] 59)).alloc (.cells #[.slice none 0 0, .int .i64 0] 55)) (.slice A1 n c1) l rfl F1.out hG.out _ _ m g' A' c' rfl hL.out (by simp) hone.out hel.out hgg.out (fun x hx => by rw [hx]; simp) (by have := N1.out; unfold maxLen; omega) (by have := N1.out; omega) hsz.out (Ext.trans E2.out hG.out) ?_ ?_
      · simp
      intro v' w5 hA' hE' hX'
      have N2 := Lib.hid (show (l ++ [m]).length = n + 1 by simp [N1.out])
      obtain ⟨L1, hL1⟩ : ∃ L1, L1 = l ++ [m] := ⟨_, rfl⟩
      rw [← hL1] at hA' N2
      obtain ⟨A2, c2, hv, -, -, -, -⟩ := hA'.own
      rw [N2.out] at hv
      subst hv
      have hbx := Lib.hid ((hX' _ rfl).trans (ext_blk hG.out bo.out))
      obtain ⟨z1', z2, z3⟩ := blk_cells hbx.out
      have s0 := z1' 0
      have s1 := z1' 1
      simp at s0 s1
      have K5 := Lib.hid (hE'.setCell_ (p := ⟨w1.heap.size, 0, none⟩) (by have := z1.out; simp; omega) (.slice A2 (n + 1) c2))
      have A5 := Lib.hid (hA'.set_ (p := ⟨w1.heap.size, 0, none⟩) rfl (.slice A2 (n + 1) c2))
      have bx5 := Lib.hid (blk_set hbx.out 0 (.slice A2 (n + 1) c2))
      have hLq := Lib.hid hL1
      clear hL hG hel hgg hone hsz hX' hE' hA' z1' hL1
      by_cases hlen : n + 1 ≤ 12
      · have hlen' : ¬ (12 : Int) < (n : Int) + 1 := by omega
        have hLL := Lib.hid (show enqL l d m = L1 by unfold enqL; rw [if_pos hok.out, if_pos (by have := N1.out; omega), hLq.out])
        have hDD := Lib.hid (show enqD l d m = d by unfold enqD; rw [if_pos hok.out, if_pos (by have := N1.out; omega)])
        obtain ⟨y1, y2, y3⟩ := blk_cells (ext_blk K5.out b3.out)
        have p0 := y1 0
        have p1 := y1 1
        simp at p0 p1
        clear y1
        go_wp2_with fail
        refine bodyPost_ret (v := .agg #[.slice A2 (n + 1) c2, .int .i64 d]) (by clear E0 b1 b2 b3 N1 M3 R3 D1 K1 BM hq' E1 H1 F1 bo E2 F2 hm' F3 hok h12 F4 bo4 N2 hbx K5 A5 bx5 hLq hLL hDD z1 hlen hlen' n12; simp [results, Try.results74, go_sem, *]) rfl ⟨A2, c2, by rw [hLL.out, hDD.out, N2.out], ?_, ?_⟩
        · iterate 2 refine Ext.setCell_ ?_ (by simp <;> omega) _
          exact Ext.trans E0.out K5.out
        · rw [hLL.out, N2.out]
          refine AppR.weak (B := w.heap.size + 1 + 1 + 1) (X := fun x => x = w1.heap.size) ?_ (by omega) (fun x hx => hx.elim)
          iterate 2 refine AppR.setb ?_ (by simp <;> omega) _
          exact A5.out
      · have hlen2 : (12 : Int) < (n : Int) + 1 := by omega
        have hLL := Lib.hid (show enqL l d m = L1.eraseIdx (wst L1 (n + 1)) by unfold enqL; rw [if_pos hok.out, if_neg (by have := N1.out; omega), hLq.out, N1.out])
        have hDD := Lib.hid (show enqD l d m = wrap64 (d + 1) by unfold enqD; rw [if_pos hok.out, if_neg (by have := N1.out; omega)])
        obtain ⟨A3, c3, e3, hcap, -, hO3, -⟩ := A5.out.own
        injection e3 with e3 e4 e5
        subst e3 e5
        rw [N2.out] at hcap
        have O5 := Lib.hid hO3.els
        have hwl := Lib.hid (wst_lt L1 (by rw [N2.out]; omega))
        clear hO3 e4 hlen
        go_wp2
        go_loopw [6, 35] (fun wv i wr => ∃ k : Nat, k ≤ n + 1 ∧ i = .int .i64 k ∧ wv = .int .i64 (wst L1 k : Nat) ∧ Hid (Ext (w5.setCell ⟨w1.heap.size, 0, none⟩ (.slice A2 (n + 1) c2)) wr)) (fun _ i _ => n + 1 - (intOf i).toNat)
        case atStart => exact ⟨0, Nat.zero_le _, rfl, rfl, Lib.hid (Ext.refl _)⟩
        case round =>
          obtain ⟨k, hk, rfl, rfl, hE⟩ := hrel
          obtain ⟨x1, x2, x3⟩ := blk_cells (ext_blk hE.out bx5.out)
          have r0 := x1 0
          have r1 := x1 1
          simp at r0 r1
          by_cases hlt : k < n + 1
          · have hw1 := hwl.out k (by rw [N2.out]; omega)
            have hwn : wst L1 k < n + 1 := by rw [N2.out] at hw1; exact hw1
            have hst := Lib.hid (show wst L1 (k + 1) = if catAt L1 k ≤ catAt L1 (wst L1 k) then k else wst L1 k from rfl)
            obtain ⟨b, off, rfl, hb, hc⟩ := (els_up O5.out hE.out).at_ (List.ne_nil_of_length_pos (by rw [N2.out]; omega))
            have hkl : k < L1.length := by rw [N2.out]; exact hlt
            obtain ⟨B1, cB1, hRB1, k0, k1, k2, k3⟩ := els_msg hc k hkl
            obtain ⟨B2, cB2, hRB2, m0, m1, m2, m3⟩ := els_msg hc (wst L1 k) hw1
            rw [← catAt_get hkl] at k1
            rw [← catAt_get hw1] at m1
            have p0 : (0 : Int) ≤ (k : Int) := by omega
            have p1 : (k : Int) < ((n : Int) + 1) := by omega
            clear hc hRB1 hRB2 m0 m2 m3 hw1
            generalize wst L1 k = wk at *
            have p2 : (0 : Int) ≤ (wk : Int) := by omega
            have p3 : (wk : Int) < ((n : Int) + 1) := by omega
            by_cases hcm : catAt L1 k ≤ catAt L1 wk
            · have hs2 := Lib.hid (show wst L1 (k + 1) = k by rw [hst.out, if_pos hcm])
              go_wp2_with fail
              refine wp_region_chain 9 (by kernel_rfl) (by kernel_rfl) ?_
              simp only [List.take_succ_cons, List.take_zero, List.drop_succ_cons, List.drop_zero]
              repeat (apply Chain.quiet; · (intro vs wq hEq hd; obtain ⟨hcq, hfq⟩ := bcell hEq; clear hEq hd; (try simp only [Act.put, SP.pick, SP.is, SP.box, id_eq, List.take_succ_cons, List.take_zero, List.drop_succ_cons, List.drop_zero, List.setIfInBounds_toArray, List.set_cons_zero, List.set_cons_succ]); refine growOp_go ?_; go_simp; exact ⟨Ext.refl _, rfl⟩))
              refine Chain.done ?_
              intro vs w9 hE9 hd9
              simp only [Act.put, SP.pick, SP.is, SP.box, id_eq, List.take_succ_cons, List.take_zero, List.drop_succ_cons, List.drop_zero, List.setIfInBounds_toArray, List.set_cons_zero, List.set_cons_succ]
              clear hd9
              go_wp2
              go_roundw
              case rel => exact ⟨k + 1, by omega, by go_num, by rw [hs2.out], Lib.hid (Ext.trans hE.out (Ext.trans (Ext.alloc_ _ _) hE9))⟩
              case measure => simp [intOf]; omega
            · have hs2 := Lib.hid (show wst L1 (k + 1) = wk by rw [hst.out, if_neg hcm])
              go_wp2_with fail
              refine wp_region_chain 9 (by kernel_rfl) (by kernel_rfl) ?_
              simp only [List.take_succ_cons, List.take_zero, List.drop_succ_cons, List.drop_zero]
              repeat (apply Chain.quiet; · (intro vs wq hEq hd; obtain ⟨hcq, hfq⟩ := bcell hEq; clear hEq hd; (try simp only [Act.put, SP.pick, SP.is, SP.box, id_eq, List.take_succ_cons, List.take_zero, List.drop_succ_cons, List.drop_zero, List.setIfInBounds_toArray, List.set_cons_zero, List.set_cons_succ]); refine growOp_go ?_; go_simp; exact ⟨Ext.refl _, rfl⟩))
              refine Chain.done ?_
              intro vs w9 hE9 hd9
              simp only [Act.put, SP.pick, SP.is, SP.box, id_eq, List.take_succ_cons, List.take_zero, List.drop_succ_cons, List.drop_zero, List.setIfInBounds_toArray, List.set_cons_zero, List.set_cons_succ]
              clear hd9
              go_wp2
              go_roundw
              case rel => exact ⟨k + 1, by omega, by go_num, by rw [hs2.out], Lib.hid (Ext.trans hE.out (Ext.trans (Ext.alloc_ _ _) hE9))⟩
              case measure => simp [intOf]; omega
          · obtain rfl : k = n + 1 := by omega
            have hw1 := hwl.out (n + 1) (by rw [N2.out]; exact Nat.le_refl _)
            obtain ⟨wk, hwk⟩ : ∃ wk, wk = wst L1 (n + 1) := ⟨_, rfl⟩
            rw [← hwk] at hw1 hLL ⊢
            rw [N2.out] at hw1
            obtain ⟨es, o1, o2, o3, o4⟩ := A5.out.ext hE.out
            have hel : es.length = n + 1 := by have := congrArg List.length o4; rw [N2.out] at this; simpa using this
            have oo := o1.2
            rcases oo with ⟨h0, _⟩ | ⟨G, cap, cur, e1, hGB, hGc, -, -, -, -⟩
            · exfalso
              injection h0 with _ h0
              omega
            · injection e1 with e1 e2 e3
              subst e1 e3
              rw [hel] at o1
              obtain ⟨cp1, cp2⟩ := cel_part o1 wk (by omega) hel
              obtain ⟨PA, hPA0⟩ : ∃ PA : Option Addr, (if c2 = wk + 1 then some ⟨G, 0, none⟩ else some ⟨G, (wk + 1) * 4, none⟩) = PA := ⟨_, rfl⟩
              have CP1 := Lib.hid cp1
              have CP2 := Lib.hid (show Cel wr PA (rowOf kMsg (es.drop (wk + 1))) by rw [← hPA0]; exact cp2)
              have hPn := Lib.hid (show PA = none → c2 - (wk + 1) = 0 by rw [← hPA0]; intro h; split at h <;> cases h)
              have hPA := Lib.hid hPA0
              have OB := Lib.hid (o2 G rfl)
              have OX := Lib.hid o3
              have OM := Lib.hid o4
              have HL := Lib.hid hel
              have OO := Lib.hid o1
              have x5 := Lib.hid (show w1.heap.size < wr.heap.size from x3)
              have hGl := Lib.hid (heap_lt hGc)
              have p0 : (0 : Int) ≤ (wk : Int) := by omega
              have p1 : (wk : Int) ≤ (n : Int) + 1 := by omega
              have w2 : IntKind.i64.wrap ((wk : Int) + 1) = (wk : Int) + 1 := by rw [IntKind.wrap_i64]; omega
              have hwc : wk ≤ c2 := by omega
              have hwc2 : wk + 1 ≤ c2 := by omega
              have hwn : wk + 1 ≤ n + 1 := by omega
              clear cp1 cp2 hPA0 o1 o2 o3 o4 hel hGc hwk e2 x1 hGB
              go_wp2_with fail
              refine wp_region_chain 9 (by kernel_rfl) (by kernel_rfl) ?_
              simp only [List.take_succ_cons, List.take_zero, List.drop_succ_cons, List.drop_zero]
              repeat (apply Chain.quiet; · (intro vs wq hEq hd; obtain ⟨hcq, hfq⟩ := bcell hEq; clear hEq hd; (try simp only [Act.put, SP.pick, SP.is, SP.box, id_eq, List.take_succ_cons, List.take_zero, List.drop_succ_cons, List.drop_zero, List.setIfInBounds_toArray, List.set_cons_zero, List.set_cons_succ]); refine growOp_go ?_; go_simp; exact ⟨Ext.refl _, rfl⟩))
              refine Chain.quiet (V := .slice PA (n + 1 - (wk + 1)) (c2 - (wk + 1))) ?_ ?_
              · intro vs wq hEq hd
                obtain ⟨hcq, hfq⟩ := bcell hEq
                clear hEq hd
                (try simp only [Act.put, SP.pick, SP.is, SP.box, id_eq, List.take_succ_cons, List.take_zero, List.drop_succ_cons, List.drop_zero, List.setIfInBounds_toArray, List.set_cons_zero, List.set_cons_succ])
                refine growOp_go ?_
                go_simp
                rw [if_pos ⟨by omega, by omega⟩, hPA.out]
                exact ⟨Ext.refl _, by simp⟩
              refine Chain.done ?_
              intro vs w6 hE6 hd6
              simp only [Act.put, SP.pick, SP.is, SP.box, id_eq, List.take_succ_cons, List.take_zero, List.drop_succ_cons, List.drop_zero, List.setIfInBounds_toArray, List.set_cons_zero, List.set_cons_succ]
              have O6 := Lib.hid (Ext.own hE6 (own_take OO.out (k := wk) (by omega)))
              rw [show kMsg.size = 4 from rfl, ← show rowOf kMsg (es.take wk) = (rowOf kMsg es).take (wk * 4) from rowOf_take wk] at O6
              have F6 := Lib.hid (Ext.trans (Ext.trans K5.out hE.out) hE6)
              have G6 := Lib.hid hE6
              have bx6 := Lib.hid (ext_blk (Ext.trans hE.out hE6) bx5.out)
              clear hd6 hE6
              refine wpApp (.tmp 54) (.tmp 59) elMsg rfl rfl (w.heap.size + 1 + 1 + 1) (.slice (some ⟨G, 0, none⟩) wk c2) wk (rowOf kMsg (es.take wk)) rfl O6.out PA (n + 1 - (wk + 1)) (c2 - (wk + 1)) (rowOf kMsg (es.drop (wk + 1))) rfl (CP2.out.ext G6.out) (by rw [rowOf_len, List.length_drop, HL.out]; rfl) hPn.out row_one (by unfold maxLen; omega) (by omega) (by have := z1.out; have := G6.out.size; omega) ?_
              intro v' w7 q1 q2 q3
              simp only [Value.ownBlock] at q2 q3
              have AD := Lib.hid (AppR.del (K := kMsg) (i := wk) (m := n) (rv := some G) (B := w.heap.size + 1 + 1 + 1) (X := fun x => x = w1.heap.size) (by rw [HL.out]; omega) (by rw [HL.out]; rfl) (by rwa [show wk + (n + 1 - (wk + 1)) = n by omega] at q1) q2 q3 ((OB.out.2.ext G6.out).mono (Nat.le_refl _) G6.out.size) (fun e he h0 h => by injection h with h; exact ((OB.out.2.1 e he).2.2.resolve_left h0).2.2.2.1 h.symm) (fun G' hG' hx => by injection hG' with hG'; subst hG'; exact OB.out.1 hx) (fun x hx => by have := G6.out.size; omega) OX.out)
              rw [OM.out, ← hLL.out] at AD
              have hLn := Lib.hid (show (enqL l d m).length = n by rw [hLL.out, List.length_eraseIdx_of_lt (by rw [N2.out]; omega), N2.out]; rfl)
              obtain ⟨A4, c4, hv4, -, -, hO4, -⟩ := AD.out.own
              rw [hLn.out] at hv4
              subst hv4
              have F7 := Lib.hid (ext_grown F6.out q2 O6.out (by simp))
              have bx7 := Lib.hid ((q2.block _ (heap_lt bx6.out) (fun h => by injection h with h; exact OB.out.1 h.symm)).trans bx6.out)
              have AS := Lib.hid ((AD.out.set_ (p := ⟨w1.heap.size, 0, none⟩) rfl (.slice A4 n c4)).set_ (p := ⟨w1.heap.size, 1, none⟩) rfl (.int .i64 (wrap64 (d + 1))))
              obtain ⟨y1, y2, y3⟩ := blk_cells (ext_blk F7.out b3.out)
              have p0' := y1 0
              have p1' := y1 1
              obtain ⟨u1, u2, u3⟩ := blk_cells (ext_blk F7.out b1.out)
              have t1 := u1 1
              obtain ⟨s1', s2, s3⟩ := blk_cells bx7.out
              have v0 := s1' 0
              have v1 := s1' 1
              simp at p0' p1' t1 v0 v1
              clear q1 q2 q3 hO4 OO CP1 CP2 hPA hPn OB OX OM G6 bx6 O6 AD y1 u1 s1' s0 s1 w2 p0 p1 K5 A5 bx5 hbx bo4 O5 bx7 z2 z3
              have z9 := z1.out
              go_wp2_with fail
              refine bodyPost_ret (v := .agg #[.slice A4 n c4, .int .i64 (wrap64 (d + 1))]) (by clear E0 b1 b2 b3 N1 M3 R3 D1 K1 BM hq' E1 H1 F1 bo E2 F2 hm' F3 hok h12 F4 N2 hLq hLL hDD z1 hlen2 n12 F6 F7 hLn AS HL hwl hE; simp [results, Try.results74, go_sem, *]) rfl ⟨A4, c4, by rw [hLn.out, hDD.out], ?_, ?_⟩
              · iterate 2 refine Ext.setCell_ ?_ (by simp <;> omega) _
                iterate 2 refine Ext.setCell_ ?_ (by simp <;> omega) _
                exact Ext.trans E0.out F7.out
              · rw [hLn.out]
                refine AppR.weak (B := w.heap.size + 1 + 1 + 1) (X := fun x => x = w1.heap.size) ?_ (by omega) (fun x hx => hx.elim)
                iterate 2 refine AppR.setb ?_ (by simp <;> omega) _
                exact AS.out
    · have hm' := Lib.hid (show msgB m.to m.cat m.dl m.body.length = false by simpa [okM] using hm)
      have hL := Lib.hid (show enqL l d m = l by unfold enqL; rw [if_neg (by simp [hm])])
      have hD := Lib.hid (show enqD l d m = d by unfold enqD; rw [if_neg (by simp [hm])])
      clear hq hm
      go_enter Try.func74, Try.ntmps74
      go_wp2_with fail
      refine (iCopyQ _ _ _ _ _ l N1.out M3.out D1.out K1.out).mono ?_
      rintro e w1 ⟨A1, c1, rfl, h1, hA1⟩
      have E1 := Lib.hid (Ext.trans E0.out h1)
      have H1 := Lib.hid h1
      have F1 := Lib.hid ((hA1.addX.ext (Ext.alloc_ w1 (.cells #[.slice A1 n c1, .int .i64 d] 55))).weak (B' := w.heap.size + 1 + 1 + 1) (X' := fun x => x = w1.heap.size) (by simp) (fun x hx => by rw [hx]; exact Nat.le_refl _))
      have bo := Lib.hid (new_blk1 w1 #[.slice A1 n c1, .int .i64 d] 55)
      have E2 := Lib.hid (Ext.trans h1 (Ext.alloc_ w1 (.cells #[.slice A1 n c1, .int .i64 d] 55)))
      obtain ⟨x1, x2, x3⟩ := blk_cells (ext_blk h1 b1.out)
      have z1 := Lib.hid (show w.heap.size + 1 + 1 + 1 ≤ w1.heap.size by have := h1.size; simpa using this)
      clear h1 hA1
      go_wp2_with fail
      refine (iQueOk _ _ _ _ _ l N1.out (els_up M3.out E2.out) (by have := K1.out; omega)).mono ?_
      rintro e w2 ⟨rfl, h2⟩
      have F2 := Lib.hid h2
      clear h2 x1 x2 x3
      rw [hq'.out]
      obtain ⟨x1, x2, x3⟩ := blk_cells (ext_blk (Ext.trans E2.out F2.out) b2.out)
      go_wp2_with fail
      refine (iMsgOk _ _ _ _ _ _ _).mono ?_
      rintro e w3 ⟨rfl, h3⟩
      rw [hm'.out]
      have F3 := Lib.hid (Ext.trans F2.out h3)
      clear h3 x1 x2 x3
      obtain ⟨y1, y2, y3⟩ := blk_cells (ext_blk (Ext.trans E2.out F3.out) b3.out)
      obtain ⟨z1', z2, z3⟩ := blk_cells (ext_blk F3.out bo.out)
      have p0 := y1 0
      have p1 := y1 1
      have q0 := z1' 0
      have q1 := z1' 1
      simp at p0 p1 q0 q1
      clear y1 z1'
      go_wp2_with fail
      refine bodyPost_ret (v := .agg #[.slice A1 n c1, .int .i64 d]) (by clear E0 b1 b2 b3 N1 M3 R3 D1 K1 BM hq' hL hD E1 H1 F1 bo E2 F2 hm' F3; simp [results, Try.results74, go_sem, *]) rfl ⟨A1, c1, by rw [hL.out, hD.out, N1.out], ?_, ?_⟩
      · iterate 2 refine Ext.setCell_ ?_ (by simp <;> omega) _
        exact Ext.trans E0.out (Ext.trans E2.out F3.out)
      · rw [hL.out, N1.out]
        refine AppR.weak (B := w.heap.size + 1 + 1 + 1) (X := fun x => x = w1.heap.size) ?_ (by omega) (fun x hx => hx.elim)
        iterate 2 refine AppR.setb ?_ (by simp <;> omega) _
        exact F1.out.ext F3.out
  · have hq' := Lib.hid (show okQ l d = false by simpa using hq)
    have hL := Lib.hid (show enqL l d m = l by unfold enqL; rw [if_neg (by simp [hq])])
    have hD := Lib.hid (show enqD l d m = d by unfold enqD; rw [if_neg (by simp [hq])])
    clear hq
    go_enter Try.func74, Try.ntmps74
    go_wp2_with fail
    refine (iCopyQ _ _ _ _ _ l N1.out M3.out D1.out K1.out).mono ?_
    rintro e w1 ⟨A1, c1, rfl, h1, hA1⟩
    have E1 := Lib.hid (Ext.trans E0.out h1)
    have H1 := Lib.hid h1
    have F1 := Lib.hid ((hA1.addX.ext (Ext.alloc_ w1 (.cells #[.slice A1 n c1, .int .i64 d] 55))).weak (B' := w.heap.size + 1 + 1 + 1) (X' := fun x => x = w1.heap.size) (by simp) (fun x hx => by rw [hx]; exact Nat.le_refl _))
    have bo := Lib.hid (new_blk1 w1 #[.slice A1 n c1, .int .i64 d] 55)
    have E2 := Lib.hid (Ext.trans h1 (Ext.alloc_ w1 (.cells #[.slice A1 n c1, .int .i64 d] 55)))
    obtain ⟨x1, x2, x3⟩ := blk_cells (ext_blk h1 b1.out)
    have z1 := Lib.hid (show w.heap.size + 1 + 1 + 1 ≤ w1.heap.size by have := h1.size; simpa using this)
    clear h1 hA1
    go_wp2_with fail
    refine (iQueOk _ _ _ _ _ l N1.out (els_up M3.out E2.out) (by have := K1.out; omega)).mono ?_
    rintro e w2 ⟨rfl, h2⟩
    have F2 := Lib.hid h2
    clear h2 x1 x2 x3
    rw [hq'.out]
    obtain ⟨y1, y2, y3⟩ := blk_cells (ext_blk (Ext.trans E2.out F2.out) b3.out)
    obtain ⟨z1', z2, z3⟩ := blk_cells (ext_blk F2.out bo.out)
    have p0 := y1 0
    have p1 := y1 1
    have q0 := z1' 0
    have q1 := z1' 1
    simp at p0 p1 q0 q1
    clear y1 z1'
    go_wp2_with fail
    refine bodyPost_ret (v := .agg #[.slice A1 n c1, .int .i64 d]) (by clear E0 b1 b2 b3 N1 M3 R3 D1 K1 BM hq' hL hD E1 H1 F1 bo E2 F2; simp [results, Try.results74, go_sem, *]) rfl ⟨A1, c1, by rw [hL.out, hD.out, N1.out], ?_, ?_⟩
    · iterate 2 refine Ext.setCell_ ?_ (by simp <;> omega) _
      exact Ext.trans E0.out (Ext.trans E2.out F2.out)
    · rw [hL.out, N1.out]
      refine AppR.weak (B := w.heap.size + 1 + 1 + 1) (X := fun x => x = w1.heap.size) ?_ (by omega) (fun x hx => hx.elim)
      iterate 2 refine AppR.setb ?_ (by simp <;> omega) _
      exact F1.out.ext F2.out
theorem app_els2 {w : World} {B : Nat} {X : Nat → Prop} {T : TypeId} {A : Option Addr} {n c : Nat} {l : List Msg} (h : AppR kMsg T w B X (.slice A n c) l) : Els w A 4 (kE kMsg) l := by
  obtain ⟨A', c', hv, -, -, hO, -⟩ := h.own
  injection hv with q1 q2 q3
  subst q1
  exact hO.els
theorem els_take {w : World} {A : Option Addr} {l l' : List Msg} (h : Els w A 4 (kE kMsg) (l ++ l')) : Els w A 4 (kE kMsg) l := by
  rcases h with h | ⟨b, off, h1, h2, h3⟩
  · exact .inl (List.append_eq_nil_iff.1 h).1
  · refine .inr ⟨b, off, h1, h2, fun i hi => ?_⟩
    have := h3 i (by simp; omega)
    rw [List.getElem_append_left hi] at this
    exact this
theorem els_last {w : World} {A : Option Addr} {l : List Msg} {m : Msg} {N : Nat} (h : Els w A 4 (kE kMsg) (l ++ [m])) (hN : N = l.length) :
    ∃ b off, A = some ⟨b, off, none⟩ ∧ b < w.heap.size ∧ ∃ B c, RB w B c m.body ∧ w.cell? ⟨b, off + N * 4, none⟩ = some (.int .i64 m.to) ∧ w.cell? ⟨b, off + N * 4 + 1, none⟩ = some (.int .i64 m.cat) ∧ w.cell? ⟨b, off + N * 4 + 2, none⟩ = some (.int .i64 m.dl) ∧ w.cell? ⟨b, off + N * 4 + 3, none⟩ = some (.slice B m.body.length c) := by
  obtain ⟨b, off, h1, h5, h6⟩ := h.at_ (by simp)
  obtain ⟨B, c, hR, k0, k1, k2, k3⟩ := els_msg h6 N (by simp; omega)
  have hge : (l ++ [m])[N]'(by simp; omega) = m := by subst hN; simp
  rw [hge] at hR k0 k1 k2 k3
  exact ⟨b, off, h1, h5, B, c, hR, k0, k1, k2, k3⟩
theorem msgP_byt {m : Msg} (h : MsgP m) : Byt m.body := ⟨by have := h.2; unfold maxLen; omega, h.1⟩
set_option maxRecDepth 8000 in
set_option maxHeartbeats 2000000 in
theorem walk_FnQueues (a0 : Option Addr) (n0 c0 : Nat) (w : World) (r0 : Rd Try.prog w 22 [.slice a0 n0 c0]) :
    Calls Try.prog 11 #[.slice a0 n0 c0] w fun e w' => e = .returned (.bool true) ∧ Below w.heap.size w w' := by
  obtain ⟨l0, hn, hr, hb, hm⟩ := view_code r0
  clear r0
  by_cases hbig : (1048576 : Int) < n0
  · go_enter Try.func11, Try.ntmps11
    go_wp2_with fail
    refine (big_ _ _ _ _ hm).mono ?_
    rintro e w' ⟨rfl, rfl⟩
    rw [decide_eq_true hbig]
    go_wp2_with fail
    go_ret
    exact ⟨rfl, Below.refl _ _⟩
  · have hn01 : n0 ≤ 1048576 := by omega
    go_enter Try.func11, Try.ntmps11
    go_wp2_with fail
    refine (big_ _ _ _ _ hm).mono ?_
    rintro e w' ⟨rfl, rfl⟩
    rw [decide_eq_false (by omega)]
    go_wp2_with fail
    refine (sDrawEnq _ _ _ _ l0 hn hr hb hn01).mono ?_
    rintro e w1 ⟨A, c, l, d, m, g, Am, cm, rfl, hQ, hP, hA, hNB, hE⟩
    have e2 := Ext.trans (Ext.alloc_ w1 (.cells #[.slice A l.length c, .int .i64 d] 55)) (Ext.alloc_ _ (.cells #[.int .i64 m.to, .int .i64 m.cat, .int .i64 m.dl, .slice Am m.body.length cm] 59))
    have bQ := Lib.hid (ext_blk (Ext.alloc_ _ (.cells #[.int .i64 m.to, .int .i64 m.cat, .int .i64 m.dl, .slice Am m.body.length cm] 59)) (new_blk1 w1 #[.slice A l.length c, .int .i64 d] 55))
    have bM0 := new_blk1 (w1.alloc (.cells #[.slice A l.length c, .int .i64 d] 55)) #[.int .i64 m.to, .int .i64 m.cat, .int .i64 m.dl, .slice Am m.body.length cm] 59
    simp only [World.size_alloc] at bM0
    have bM := Lib.hid bM0
    have E2 := Lib.hid (Ext.trans hE e2)
    have L2 := Lib.hid (els_up (app_els2 hA) e2)
    have R2 := Lib.hid ((hNB.ext e2).rb)
    have HQ := Lib.hid hQ
    have HP := Lib.hid hP
    have HB := Lib.hid (fun m hm => Nat.le_trans (hQ.2.2 m hm).2 (by decide) : ∀ m ∈ l, m.body.length ≤ 1048576)
    have hml : m.body.length ≤ 1048576 := Nat.le_trans hP.2 (by decide)
    have hN13 : l.length ≤ 13 := hQ.1
    have hdr : -1 ≤ d ∧ d ≤ 14 := hQ.2.1
    obtain ⟨N, hN⟩ : ∃ N, N = l.length := ⟨_, rfl⟩
    have HN := Lib.hid hN
    rw [← hN] at bQ bM E2 L2 R2 hN13 ⊢
    clear hn hr hb hm hbig hE e2 hA hQ hP hN hNB bM0
    go_wp2_with fail
    generalize World.alloc (World.alloc w1 _) _ = w2 at *
    generalize w1.heap.size = gq at *
    refine (iEnqA _ A N c d l m Am cm HN.out.symm L2.out HB.out (by omega) R2.out hml).mono ?_
    rintro e w3 ⟨Ax, cx, rfl, h3, hAX⟩
    obtain ⟨x, hx⟩ : ∃ x, x = enqL l d m := ⟨_, rfl⟩
    obtain ⟨dx, hdx⟩ : ∃ x, x = enqD l d m := ⟨_, rfl⟩
    obtain ⟨XN, hXN⟩ : ∃ n, n = x.length := ⟨_, rfl⟩
    rw [← hx, ← hdx, ← hXN]
    rw [← hx, ← hXN] at hAX
    have hcx : XN ≤ cx := by
      obtain ⟨A', c', hv, h1, -, -, -⟩ := hAX.own
      injection hv with q1 q2 q3
      omega
    have hX13 : XN ≤ 13 := by
      rw [hXN, hx]
      unfold enqL
      split
      · rename_i hbb
        have := okQ_len (by simpa using (Bool.and_eq_true_iff.1 hbb).1)
        split
        · simp; omega
        · rw [List.length_eraseIdx_of_lt (wst_lt _ (by simp) _ (by simp))]; simp; omega
      · have := HN.out; omega
    have HXB := Lib.hid (show ∀ y ∈ x, MsgP y from by
      intro y hy
      rw [hx] at hy
      have hall : ∀ y ∈ l ++ [m], MsgP y := by
        intro y hy
        rcases List.mem_append.1 hy with h | h
        · exact HQ.out.2.2 y h
        · simp at h; subst h; exact HP.out
      unfold enqL at hy
      split at hy
      · split at hy
        · exact hall y hy
        · exact hall y ((List.eraseIdx_sublist _ _).subset hy)
      · exact HQ.out.2.2 y hy)
    have e4 := Ext.alloc_ w3 (.cells #[.slice Ax XN cx, .int .i64 dx] 55)
    have F4 := Ext.trans h3 e4
    have E4 := Lib.hid (Ext.trans E2.out F4)
    have bX4 := Lib.hid (new_blk1 w3 #[.slice Ax XN cx, .int .i64 dx] 55)
    have bQ4 := Lib.hid (ext_blk F4 bQ.out)
    have bM4 := Lib.hid (ext_blk F4 bM.out)
    have L4 := Lib.hid (els_up L2.out F4)
    have R4 := Lib.hid (R2.out.ext F4)
    have X4 := Lib.hid (els_up (app_els2 hAX) e4)
    have HX := Lib.hid hx
    have HD := Lib.hid hdx
    have HXN := Lib.hid hXN
    clear h3 hAX hx hdx hXN e4 F4 E2 bQ bM L2 R2
    obtain ⟨y1, y2, y3⟩ := blk_cells (bQ4.out)
    have q0 := y1 0
    have q1 := y1 1
    simp at q0 q1
    clear y1
    go_wp2_with fail
    generalize World.alloc w3 _ = w4 at *
    generalize w3.heap.size = gx at *
    refine (sQueOk _ A N c d l HN.out.symm L4.out (by omega)).mono ?_
    rintro e w5 ⟨rfl, h5⟩
    clear q0 q1 y2 y3
    have E5 := Lib.hid (Ext.trans E4.out h5)
    have bX5 := Lib.hid (ext_blk h5 bX4.out)
    have bQ5 := Lib.hid (ext_blk h5 bQ4.out)
    have bM5 := Lib.hid (ext_blk h5 bM4.out)
    have L5 := Lib.hid (els_up L4.out h5)
    have R5 := Lib.hid (R4.out.ext h5)
    have X5 := Lib.hid (els_up X4.out h5)
    clear h5 E4 bX4 bQ4 bM4 L4 R4 X4
    cases hq : okQ l d with
    | false =>
      obtain ⟨hx1, hx2⟩ := enq_bad (l := l) (d := d) (m := m) (by rw [hq]; rfl)
      clear hq
      have HXX := Lib.hid (HX.out.trans hx1)
      have HDD := Lib.hid (HD.out.trans hx2)
      clear hx1 hx2
      obtain ⟨x1, x2, x3⟩ := blk_cells (bX5.out)
      have p0 := x1 0
      have p1 := x1 1
      simp at p0 p1
      clear x1
      obtain ⟨y1, y2, y3⟩ := blk_cells (bQ5.out)
      have q0 := y1 0
      have q1 := y1 1
      simp at q0 q1
      clear y1
      go_wp2_with fail
      refine (iEqQ _ Ax A XN N cx c dx d x l HXN.out.symm HN.out.symm X5.out L5.out (fun y hy => msgP_byt (HXB.out y hy)) (fun y hy => msgP_byt (HQ.out.2.2 y hy)) (by omega) (by omega)).mono ?_
      rintro e w9 ⟨rfl, h9⟩
      rw [show (decide (dx = d) && decide (x = l)) = true by rw [HXX.out, HDD.out]; simp]
      have E9 := Lib.hid (Ext.trans E5.out h9)
      clear h9
      go_wp2_with fail
      go_ret
      exact ⟨rfl, E9.out⟩
    | true =>
      obtain ⟨v1, v2, v3⟩ := blk_cells (bM5.out)
      have r0 := v1 0
      have r1 := v1 1
      have r2 := v1 2
      have r3 := v1 3
      simp at r0 r1 r2 r3
      clear v1
      go_wp2_with fail
      refine (sMsgOk _ _ _ _ _ _ _).mono ?_
      rintro e w6 ⟨rfl, h6⟩
      clear r0 r1 r2 r3 v2 v3
      have E6 := Lib.hid (Ext.trans E5.out h6)
      have bX6 := Lib.hid (ext_blk h6 bX5.out)
      have bQ6 := Lib.hid (ext_blk h6 bQ5.out)
      have bM6 := Lib.hid (ext_blk h6 bM5.out)
      have L6 := Lib.hid (els_up L5.out h6)
      have R6 := Lib.hid (R5.out.ext h6)
      have X6 := Lib.hid (els_up X5.out h6)
      clear h6 E5 bX5 bQ5 bM5 L5 R5 X5
      cases hmo : msgB m.to m.cat m.dl m.body.length with
      | false =>
        obtain ⟨hx1, hx2⟩ := enq_bad (l := l) (d := d) (m := m) (by rw [hq]; show (true && okM m) = false; exact hmo)
        clear hq hmo
        have HXX := Lib.hid (HX.out.trans hx1)
        have HDD := Lib.hid (HD.out.trans hx2)
        clear hx1 hx2
        obtain ⟨x1, x2, x3⟩ := blk_cells (bX6.out)
        have p0 := x1 0
        have p1 := x1 1
        simp at p0 p1
        clear x1
        obtain ⟨y1, y2, y3⟩ := blk_cells (bQ6.out)
        have q0 := y1 0
        have q1 := y1 1
        simp at q0 q1
        clear y1
        go_wp2_with fail
        refine (iEqQ _ Ax A XN N cx c dx d x l HXN.out.symm HN.out.symm X6.out L6.out (fun y hy => msgP_byt (HXB.out y hy)) (fun y hy => msgP_byt (HQ.out.2.2 y hy)) (by omega) (by omega)).mono ?_
        rintro e w9 ⟨rfl, h9⟩
        rw [show (decide (dx = d) && decide (x = l)) = true by rw [HXX.out, HDD.out]; simp]
        have E9 := Lib.hid (Ext.trans E6.out h9)
        clear h9
        go_wp2_with fail
        go_ret
        exact ⟨rfl, E9.out⟩
      | true =>
        have HOK := Lib.hid (show okM m = true from hmo)
        have HQK := Lib.hid hq
        clear hq hmo
        obtain ⟨t, ht⟩ : ∃ t : Int, t = N + d := ⟨_, rfl⟩
        obtain ⟨s, hs⟩ : ∃ s : Int, s = N + d + 1 := ⟨_, rfl⟩
        have hw2 : IntKind.i64.wrap ((N : Int) + d) = t := by rw [ht]; exact IntWalk.i64_in _ (by omega)
        have hw3 : IntKind.i64.wrap (t + 1) = s := by rw [ht, hs]; exact IntWalk.i64_in _ (by omega)
        by_cases hlt : N < 12
        · obtain ⟨hd1, hx1, hv⟩ := enq_room HQK.out HOK.out (by rw [← HN.out]; exact hlt)
          rw [← HX.out, ← HD.out] at hv
          rw [← HD.out] at hd1
          rw [← HX.out] at hx1
          have HV := Lib.hid hv
          have hXN : XN = N + 1 := by rw [HXN.out, hx1, HN.out]; simp
          have HX1 := Lib.hid hx1
          have hw1 : IntKind.i64.wrap ((XN : Int) + dx) = s := by rw [hs, hd1, IntWalk.i64_in _ (by omega)]; omega
          have hd2 : d = dx := hd1.symm
          have hw5 : IntKind.i64.wrap ((XN : Int) - 1) = (N : Int) := by rw [IntWalk.i64_in _ (by omega)]; omega
          have hNX : (N : Int) < (XN : Int) := by omega
          have hNX' : N < XN := by omega
          have hN0 : (0 : Int) ≤ (N : Int) := by omega
          have hNc : N ≤ cx := by omega
          clear hv hx1 hd1 hXN ht hs
          subst hd2
          obtain ⟨x1, x2, x3⟩ := blk_cells (bX6.out)
          have p0 := x1 0
          have p1 := x1 1
          simp at p0 p1
          clear x1
          obtain ⟨y1, y2, y3⟩ := blk_cells (bQ6.out)
          have q0 := y1 0
          have q1 := y1 1
          simp at q0 q1
          clear y1
          go_wp2_with fail
          refine (iQueOk _ Ax XN cx d x HXN.out.symm X6.out (by omega)).mono ?_
          rintro e w7 ⟨rfl, h7⟩
          rw [HV.out]
          clear p0 p1 x2 x3 q0 q1 y2 y3
          have E7 := Lib.hid (Ext.trans E6.out h7)
          have bX7 := Lib.hid (ext_blk h7 bX6.out)
          have bQ7 := Lib.hid (ext_blk h7 bQ6.out)
          have bM7 := Lib.hid (ext_blk h7 bM6.out)
          have L7 := Lib.hid (els_up L6.out h7)
          have R7 := Lib.hid (R6.out.ext h7)
          have X7 := Lib.hid (els_up X6.out h7)
          clear h7 E6 bX6 bQ6 bM6 L6 R6 X6
          have X9 : Els w7 Ax 4 (kE kMsg) (l ++ [m]) := by rw [← HX1.out]; exact X7.out
          have X8 := Lib.hid (els_take X9)
          have L8 := Lib.hid L7.out
          obtain ⟨bx, ox, rfl, h5, B1, cB1, hR1, k0, k1, k2, k3⟩ := els_last X9 HN.out
          have R1 := Lib.hid hR1
          have R2 := Lib.hid R7.out
          clear X9 hR1
          obtain ⟨x1, x2, x3⟩ := blk_cells (bX7.out)
          have p0 := x1 0
          have p1 := x1 1
          simp at p0 p1
          clear x1
          obtain ⟨y1, y2, y3⟩ := blk_cells (bQ7.out)
          have q0 := y1 0
          have q1 := y1 1
          simp at q0 q1
          clear y1
          obtain ⟨v1, v2, v3⟩ := blk_cells (bM7.out)
          have r0 := v1 0
          have r1 := v1 1
          have r2 := v1 2
          have r3 := v1 3
          simp at r0 r1 r2 r3
          clear v1
          go_wp2_with fail
          refine wp_region_chain 29 (by kernel_rfl) (by kernel_rfl) ?_
          simp only [List.take_succ_cons, List.take_zero, List.drop_succ_cons, List.drop_zero]
          repeat (first | (apply Chain.quiet; · (intro vs wq hEq hd; obtain ⟨hcq, hfq⟩ := bcell hEq; clear hEq hd; (try simp only [Act.put, SP.pick, SP.is, SP.box, id_eq, List.take_succ_cons, List.take_zero, List.drop_succ_cons, List.drop_zero, List.setIfInBounds_toArray, List.set_cons_zero, List.set_cons_succ]); refine growOp_go ?_; go_simp; first | exact ⟨Ext.refl _, rfl⟩ | exact rfl | (split; (exfalso; omega); (first | exact ⟨Ext.refl _, rfl⟩ | exact rfl)) | (split; (first | exact ⟨Ext.refl _, rfl⟩ | exact rfl); (exfalso; omega)))) | (apply Chain.quiet; · (intro vs wq hEq hd; have hL1 := Lib.hid (els_up X8.out hEq); have hL2 := Lib.hid (els_up L8.out hEq); clear hEq hd; (try simp only [Act.put, SP.pick, SP.is, SP.box, id_eq, List.take_succ_cons, List.take_zero, List.drop_succ_cons, List.drop_zero, List.setIfInBounds_toArray, List.set_cons_zero, List.set_cons_succ]); refine growOp_go ?_; go_simp; refine (sameMs_ _ _ _ _ _ _ l HN.out.symm hL1.out hL2.out HB.out (by omega)).mono ?_; rintro e w5 ⟨rfl, hb⟩; first | exact ⟨rfl, hb⟩ | exact ⟨_, rfl, hb, rfl⟩)) | (apply Chain.quiet; · (intro vs wq hEq hd; have hR1 := Lib.hid (R1.out.ext hEq); have hR2 := Lib.hid (R2.out.ext hEq); clear hEq hd; (try simp only [Act.put, SP.pick, SP.is, SP.box, id_eq, List.take_succ_cons, List.take_zero, List.drop_succ_cons, List.drop_zero, List.setIfInBounds_toArray, List.set_cons_zero, List.set_cons_succ]); refine growOp_go ?_; go_simp; refine (sameM_ _ _ _ _ _ _ _ _ _ _ rfl hR1.out hR2.out hml).mono ?_; rintro e w5 ⟨rfl, hb⟩; first | exact ⟨rfl, hb⟩ | exact ⟨_, rfl, hb, rfl⟩)))
          refine Chain.done ?_
          intro vs w5 hE5 hd5
          simp only [Act.put, SP.pick, SP.is, SP.box, id_eq, List.take_succ_cons, List.take_zero, List.drop_succ_cons, List.drop_zero, List.setIfInBounds_toArray, List.set_cons_zero, List.set_cons_succ]
          clear hd5
          have E10 := Lib.hid (Ext.trans E7.out hE5)
          clear hE5
          go_wp2_with fail
          go_ret
          exact ⟨by first | rfl | simp, E10.out⟩
        · obtain ⟨hd1, hl1, hv, cc, hcc, hcnt⟩ := enq_full HQK.out HOK.out (by rw [← HN.out]; exact hlt) (by omega)
          obtain ⟨cn, rfl⟩ : ∃ cn : Nat, cc = (cn : Int) := ⟨cc.toNat, by omega⟩
          rw [← HX.out] at hl1 hv hcnt
          rw [← HD.out] at hd1 hv
          have hl2 : N = XN := by rw [HXN.out, hl1, HN.out]
          have HV := Lib.hid hv
          have HC := Lib.hid hcnt
          have hw1 : IntKind.i64.wrap ((N : Int) + (d + 1)) = s := by rw [hs, IntWalk.i64_in _ (by omega)]; omega
          have hw6 : IntKind.i64.wrap (d + 1) = d + 1 := IntWalk.i64_in _ (by omega)
          clear hv hcnt hl1 ht hs
          subst hl2
          subst hd1
          obtain ⟨x1, x2, x3⟩ := blk_cells (bX6.out)
          have p0 := x1 0
          have p1 := x1 1
          simp at p0 p1
          clear x1
          obtain ⟨y1, y2, y3⟩ := blk_cells (bQ6.out)
          have q0 := y1 0
          have q1 := y1 1
          simp at q0 q1
          clear y1
          go_wp2_with fail
          refine (iQueOk _ Ax N cx (d + 1) x HXN.out.symm X6.out (by omega)).mono ?_
          rintro e w7 ⟨rfl, h7⟩
          rw [HV.out]
          clear p0 p1 x2 x3 q0 q1 y2 y3
          have E7 := Lib.hid (Ext.trans E6.out h7)
          have bX7 := Lib.hid (ext_blk h7 bX6.out)
          have bQ7 := Lib.hid (ext_blk h7 bQ6.out)
          have bM7 := Lib.hid (ext_blk h7 bM6.out)
          have L7 := Lib.hid (els_up L6.out h7)
          have R7 := Lib.hid (R6.out.ext h7)
          have X7 := Lib.hid (els_up X6.out h7)
          clear h7 E6 bX6 bQ6 bM6 L6 R6 X6
          obtain ⟨x1, x2, x3⟩ := blk_cells (bX7.out)
          have p0 := x1 0
          have p1 := x1 1
          simp at p0 p1
          clear x1
          obtain ⟨y1, y2, y3⟩ := blk_cells (bQ7.out)
          have q0 := y1 0
          have q1 := y1 1
          simp at q0 q1
          clear y1
          obtain ⟨v1, v2, v3⟩ := blk_cells (bM7.out)
          have r0 := v1 0
          have r1 := v1 1
          have r2 := v1 2
          have r3 := v1 3
          simp at r0 r1 r2 r3
          clear v1
          go_wp2_with fail
          clear p0 p1 x2 x3 q0 q1 y2 y3 r0 r1 r2 r3 v2 v3
          go_loopw [6] (fun i wr => ∃ k : Nat, k ≤ cn ∧ i = .int .i64 k ∧ Hid (Ext w7 wr)) (fun i _ => 4 - (intOf i).toNat)
          case atStart => exact ⟨0, Nat.zero_le _, rfl, Lib.hid (Ext.refl _)⟩
          case round =>
            obtain ⟨k, hk, rfl, hE⟩ := hrel
            have hk3 : (k : Int) ≤ 3 := by omega
            have hk3' : k ≤ 3 := by omega
            have X9 := Lib.hid (els_up X7.out hE.out)
            have L9 := Lib.hid (els_up L7.out hE.out)
            obtain ⟨hc1, hc2⟩ := HC.out k
            obtain ⟨nq, hnq⟩ : ∃ n, cntM l (k : Int) = n := ⟨_, rfl⟩
            obtain ⟨nx, hnx⟩ : ∃ n, cntM x (k : Int) = n := ⟨_, rfl⟩
            rw [hnq, hnx] at hc1
            rw [hnx] at hc2
            have hnN : nq ≤ 13 := by rw [← hnq]; exact Nat.le_trans List.countP_le_length (by have := HN.out; omega)
            have hnX : nx ≤ 13 := by rw [← hnx]; exact Nat.le_trans List.countP_le_length (by have := HXN.out; omega)
            obtain ⟨x1, x2, x3⟩ := blk_cells (ext_blk hE.out bX7.out)
            have p0 := x1 0
            have p1 := x1 1
            simp at p0 p1
            clear x1
            obtain ⟨y1, y2, y3⟩ := blk_cells (ext_blk hE.out bQ7.out)
            have q0 := y1 0
            have q1 := y1 1
            simp at q0 q1
            clear y1
            by_cases hkc : k = cn
            · by_cases hmk : m.cat = (k : Int)
              · have hqx : nq = nx := by rw [if_pos hmk, if_pos (by omega)] at hc1; omega
                have hw : IntKind.i64.wrap ((nq : Int) - (nx : Int)) = 0 := by rw [hqx, IntWalk.i64_in _ (by omega)]; omega
                have HNQ := Lib.hid hnq
                have HNX := Lib.hid hnx
                clear hnq hnx hc1 hc2 hqx hkc
                go_wp2_with fail
                refine wp_region_chain 8 (by kernel_rfl) (by kernel_rfl) ?_
                simp only [List.take_succ_cons, List.take_zero, List.drop_succ_cons, List.drop_zero]
                iterate 2 (apply Chain.quiet; · (intro vs wq hEq hd; obtain ⟨hcq, hfq⟩ := bcell hEq; clear hEq hd; (try simp only [Act.put, SP.pick, SP.is, SP.box, id_eq, List.take_succ_cons, List.take_zero, List.drop_succ_cons, List.drop_zero, List.setIfInBounds_toArray, List.set_cons_zero, List.set_cons_succ]); refine growOp_go ?_; go_simp; first | exact ⟨Ext.refl _, rfl⟩ | exact rfl | (split; (exfalso; omega); (first | exact ⟨Ext.refl _, rfl⟩ | exact rfl)) | (split; (first | exact ⟨Ext.refl _, rfl⟩ | exact rfl); (exfalso; omega))))
                (apply Chain.quiet; · (intro vs wq hEq hd; have hL1 := Lib.hid (els_up L9.out hEq); obtain ⟨hcq, hfq⟩ := bcell hEq; clear hEq hd; (try simp only [Act.put, SP.pick, SP.is, SP.box, id_eq, List.take_succ_cons, List.take_zero, List.drop_succ_cons, List.drop_zero, List.setIfInBounds_toArray, List.set_cons_zero, List.set_cons_succ]); refine growOp_go ?_; go_simp; refine (iCount _ _ _ _ _ _ l HN.out.symm hL1.out (by omega)).mono ?_; rintro e w5 ⟨rfl, hb⟩; rw [HNQ.out]; first | exact ⟨rfl, hb⟩ | exact ⟨_, rfl, hb, rfl⟩))
                iterate 2 (apply Chain.quiet; · (intro vs wq hEq hd; obtain ⟨hcq, hfq⟩ := bcell hEq; clear hEq hd; (try simp only [Act.put, SP.pick, SP.is, SP.box, id_eq, List.take_succ_cons, List.take_zero, List.drop_succ_cons, List.drop_zero, List.setIfInBounds_toArray, List.set_cons_zero, List.set_cons_succ]); refine growOp_go ?_; go_simp; first | exact ⟨Ext.refl _, rfl⟩ | exact rfl | (split; (exfalso; omega); (first | exact ⟨Ext.refl _, rfl⟩ | exact rfl)) | (split; (first | exact ⟨Ext.refl _, rfl⟩ | exact rfl); (exfalso; omega))))
                (apply Chain.quiet; · (intro vs wq hEq hd; have hL1 := Lib.hid (els_up X9.out hEq); obtain ⟨hcq, hfq⟩ := bcell hEq; clear hEq hd; (try simp only [Act.put, SP.pick, SP.is, SP.box, id_eq, List.take_succ_cons, List.take_zero, List.drop_succ_cons, List.drop_zero, List.setIfInBounds_toArray, List.set_cons_zero, List.set_cons_succ]); refine growOp_go ?_; go_simp; refine (iCount _ _ _ _ _ _ x HXN.out.symm hL1.out (by omega)).mono ?_; rintro e w5 ⟨rfl, hb⟩; rw [HNX.out]; first | exact ⟨rfl, hb⟩ | exact ⟨_, rfl, hb, rfl⟩))
                iterate 2 (apply Chain.quiet; · (intro vs wq hEq hd; obtain ⟨hcq, hfq⟩ := bcell hEq; clear hEq hd; (try simp only [Act.put, SP.pick, SP.is, SP.box, id_eq, List.take_succ_cons, List.take_zero, List.drop_succ_cons, List.drop_zero, List.setIfInBounds_toArray, List.set_cons_zero, List.set_cons_succ]); refine growOp_go ?_; go_simp; first | exact ⟨Ext.refl _, rfl⟩ | exact rfl | (split; (exfalso; omega); (first | exact ⟨Ext.refl _, rfl⟩ | exact rfl)) | (split; (first | exact ⟨Ext.refl _, rfl⟩ | exact rfl); (exfalso; omega))))
                refine Chain.done ?_
                intro vs w5 hE5 hd5
                simp only [Act.put, SP.pick, SP.is, SP.box, id_eq, List.take_succ_cons, List.take_zero, List.drop_succ_cons, List.drop_zero, List.setIfInBounds_toArray, List.set_cons_zero, List.set_cons_succ]
                clear hd5
                have F10 := Lib.hid (Ext.trans hE.out hE5)
                clear hE5 p0 p1 x2 x3 q0 q1 y2 y3
                obtain ⟨x1, x2, x3⟩ := blk_cells (ext_blk F10.out bX7.out)
                have p0 := x1 0
                have p1 := x1 1
                simp at p0 p1
                clear x1
                obtain ⟨y1, y2, y3⟩ := blk_cells (ext_blk F10.out bQ7.out)
                have q0 := y1 0
                have q1 := y1 1
                simp at q0 q1
                clear y1
                obtain ⟨v1, v2, v3⟩ := blk_cells (ext_blk F10.out bM7.out)
                have r0 := v1 0
                have r1 := v1 1
                have r2 := v1 2
                have r3 := v1 3
                simp at r0 r1 r2 r3
                clear v1
                go_wp2_with fail
                go_ret
                exact ⟨by first | rfl | simp, Ext.trans E7.out F10.out⟩
              · have hqx : nq = nx + 1 := by rw [if_neg hmk, if_pos (by omega)] at hc1; omega
                have hw : IntKind.i64.wrap ((nq : Int) - (nx : Int)) = 1 := by rw [hqx, IntWalk.i64_in _ (by omega)]; omega
                have HNQ := Lib.hid hnq
                have HNX := Lib.hid hnx
                clear hnq hnx hc1 hc2 hqx hkc
                go_wp2_with fail
                refine wp_region_chain 8 (by kernel_rfl) (by kernel_rfl) ?_
                simp only [List.take_succ_cons, List.take_zero, List.drop_succ_cons, List.drop_zero]
                iterate 2 (apply Chain.quiet; · (intro vs wq hEq hd; obtain ⟨hcq, hfq⟩ := bcell hEq; clear hEq hd; (try simp only [Act.put, SP.pick, SP.is, SP.box, id_eq, List.take_succ_cons, List.take_zero, List.drop_succ_cons, List.drop_zero, List.setIfInBounds_toArray, List.set_cons_zero, List.set_cons_succ]); refine growOp_go ?_; go_simp; first | exact ⟨Ext.refl _, rfl⟩ | exact rfl | (split; (exfalso; omega); (first | exact ⟨Ext.refl _, rfl⟩ | exact rfl)) | (split; (first | exact ⟨Ext.refl _, rfl⟩ | exact rfl); (exfalso; omega))))
                (apply Chain.quiet; · (intro vs wq hEq hd; have hL1 := Lib.hid (els_up L9.out hEq); obtain ⟨hcq, hfq⟩ := bcell hEq; clear hEq hd; (try simp only [Act.put, SP.pick, SP.is, SP.box, id_eq, List.take_succ_cons, List.take_zero, List.drop_succ_cons, List.drop_zero, List.setIfInBounds_toArray, List.set_cons_zero, List.set_cons_succ]); refine growOp_go ?_; go_simp; refine (iCount _ _ _ _ _ _ l HN.out.symm hL1.out (by omega)).mono ?_; rintro e w5 ⟨rfl, hb⟩; rw [HNQ.out]; first | exact ⟨rfl, hb⟩ | exact ⟨_, rfl, hb, rfl⟩))
                iterate 2 (apply Chain.quiet; · (intro vs wq hEq hd; obtain ⟨hcq, hfq⟩ := bcell hEq; clear hEq hd; (try simp only [Act.put, SP.pick, SP.is, SP.box, id_eq, List.take_succ_cons, List.take_zero, List.drop_succ_cons, List.drop_zero, List.setIfInBounds_toArray, List.set_cons_zero, List.set_cons_succ]); refine growOp_go ?_; go_simp; first | exact ⟨Ext.refl _, rfl⟩ | exact rfl | (split; (exfalso; omega); (first | exact ⟨Ext.refl _, rfl⟩ | exact rfl)) | (split; (first | exact ⟨Ext.refl _, rfl⟩ | exact rfl); (exfalso; omega))))
                (apply Chain.quiet; · (intro vs wq hEq hd; have hL1 := Lib.hid (els_up X9.out hEq); obtain ⟨hcq, hfq⟩ := bcell hEq; clear hEq hd; (try simp only [Act.put, SP.pick, SP.is, SP.box, id_eq, List.take_succ_cons, List.take_zero, List.drop_succ_cons, List.drop_zero, List.setIfInBounds_toArray, List.set_cons_zero, List.set_cons_succ]); refine growOp_go ?_; go_simp; refine (iCount _ _ _ _ _ _ x HXN.out.symm hL1.out (by omega)).mono ?_; rintro e w5 ⟨rfl, hb⟩; rw [HNX.out]; first | exact ⟨rfl, hb⟩ | exact ⟨_, rfl, hb, rfl⟩))
                iterate 2 (apply Chain.quiet; · (intro vs wq hEq hd; obtain ⟨hcq, hfq⟩ := bcell hEq; clear hEq hd; (try simp only [Act.put, SP.pick, SP.is, SP.box, id_eq, List.take_succ_cons, List.take_zero, List.drop_succ_cons, List.drop_zero, List.setIfInBounds_toArray, List.set_cons_zero, List.set_cons_succ]); refine growOp_go ?_; go_simp; first | exact ⟨Ext.refl _, rfl⟩ | exact rfl | (split; (exfalso; omega); (first | exact ⟨Ext.refl _, rfl⟩ | exact rfl)) | (split; (first | exact ⟨Ext.refl _, rfl⟩ | exact rfl); (exfalso; omega))))
                refine Chain.done ?_
                intro vs w5 hE5 hd5
                simp only [Act.put, SP.pick, SP.is, SP.box, id_eq, List.take_succ_cons, List.take_zero, List.drop_succ_cons, List.drop_zero, List.setIfInBounds_toArray, List.set_cons_zero, List.set_cons_succ]
                clear hd5
                have F10 := Lib.hid (Ext.trans hE.out hE5)
                clear hE5 p0 p1 x2 x3 q0 q1 y2 y3
                obtain ⟨x1, x2, x3⟩ := blk_cells (ext_blk F10.out bX7.out)
                have p0 := x1 0
                have p1 := x1 1
                simp at p0 p1
                clear x1
                obtain ⟨y1, y2, y3⟩ := blk_cells (ext_blk F10.out bQ7.out)
                have q0 := y1 0
                have q1 := y1 1
                simp at q0 q1
                clear y1
                obtain ⟨v1, v2, v3⟩ := blk_cells (ext_blk F10.out bM7.out)
                have r0 := v1 0
                have r1 := v1 1
                have r2 := v1 2
                have r3 := v1 3
                simp at r0 r1 r2 r3
                clear v1
                go_wp2_with fail
                go_ret
                exact ⟨by first | rfl | simp, Ext.trans E7.out F10.out⟩
            · have hx0 : nx = 0 := hc2 (by omega)
              have hmk : ¬ m.cat = (k : Int) := by intro h; rw [if_pos h, if_neg (by omega)] at hc1; omega
              have hq0 : nq = 0 := by rw [if_neg hmk, if_neg (by omega)] at hc1; omega
              have hw : IntKind.i64.wrap ((nq : Int) - (nx : Int)) = 0 := by rw [hq0, hx0]; rfl
              have HNQ := Lib.hid hnq
              have HNX := Lib.hid hnx
              have HN0 := Lib.hid (hnx.trans hx0)
              have hk3n : ¬ (k : Int) = 3 := by omega
              have hkcn : k < cn := by omega
              clear hnq hnx hc1 hc2 hq0 hx0 hkc
              go_wp2_with fail
              refine wp_region_chain 8 (by kernel_rfl) (by kernel_rfl) ?_
              simp only [List.take_succ_cons, List.take_zero, List.drop_succ_cons, List.drop_zero]
              iterate 2 (apply Chain.quiet; · (intro vs wq hEq hd; obtain ⟨hcq, hfq⟩ := bcell hEq; clear hEq hd; (try simp only [Act.put, SP.pick, SP.is, SP.box, id_eq, List.take_succ_cons, List.take_zero, List.drop_succ_cons, List.drop_zero, List.setIfInBounds_toArray, List.set_cons_zero, List.set_cons_succ]); refine growOp_go ?_; go_simp; first | exact ⟨Ext.refl _, rfl⟩ | exact rfl | (split; (exfalso; omega); (first | exact ⟨Ext.refl _, rfl⟩ | exact rfl)) | (split; (first | exact ⟨Ext.refl _, rfl⟩ | exact rfl); (exfalso; omega))))
              (apply Chain.quiet; · (intro vs wq hEq hd; have hL1 := Lib.hid (els_up L9.out hEq); obtain ⟨hcq, hfq⟩ := bcell hEq; clear hEq hd; (try simp only [Act.put, SP.pick, SP.is, SP.box, id_eq, List.take_succ_cons, List.take_zero, List.drop_succ_cons, List.drop_zero, List.setIfInBounds_toArray, List.set_cons_zero, List.set_cons_succ]); refine growOp_go ?_; go_simp; refine (iCount _ _ _ _ _ _ l HN.out.symm hL1.out (by omega)).mono ?_; rintro e w5 ⟨rfl, hb⟩; rw [HNQ.out]; first | exact ⟨rfl, hb⟩ | exact ⟨_, rfl, hb, rfl⟩))
              iterate 2 (apply Chain.quiet; · (intro vs wq hEq hd; obtain ⟨hcq, hfq⟩ := bcell hEq; clear hEq hd; (try simp only [Act.put, SP.pick, SP.is, SP.box, id_eq, List.take_succ_cons, List.take_zero, List.drop_succ_cons, List.drop_zero, List.setIfInBounds_toArray, List.set_cons_zero, List.set_cons_succ]); refine growOp_go ?_; go_simp; first | exact ⟨Ext.refl _, rfl⟩ | exact rfl | (split; (exfalso; omega); (first | exact ⟨Ext.refl _, rfl⟩ | exact rfl)) | (split; (first | exact ⟨Ext.refl _, rfl⟩ | exact rfl); (exfalso; omega))))
              (apply Chain.quiet; · (intro vs wq hEq hd; have hL1 := Lib.hid (els_up X9.out hEq); obtain ⟨hcq, hfq⟩ := bcell hEq; clear hEq hd; (try simp only [Act.put, SP.pick, SP.is, SP.box, id_eq, List.take_succ_cons, List.take_zero, List.drop_succ_cons, List.drop_zero, List.setIfInBounds_toArray, List.set_cons_zero, List.set_cons_succ]); refine growOp_go ?_; go_simp; refine (iCount _ _ _ _ _ _ x HXN.out.symm hL1.out (by omega)).mono ?_; rintro e w5 ⟨rfl, hb⟩; rw [HNX.out]; first | exact ⟨rfl, hb⟩ | exact ⟨_, rfl, hb, rfl⟩))
              iterate 2 (apply Chain.quiet; · (intro vs wq hEq hd; obtain ⟨hcq, hfq⟩ := bcell hEq; clear hEq hd; (try simp only [Act.put, SP.pick, SP.is, SP.box, id_eq, List.take_succ_cons, List.take_zero, List.drop_succ_cons, List.drop_zero, List.setIfInBounds_toArray, List.set_cons_zero, List.set_cons_succ]); refine growOp_go ?_; go_simp; first | exact ⟨Ext.refl _, rfl⟩ | exact rfl | (split; (exfalso; omega); (first | exact ⟨Ext.refl _, rfl⟩ | exact rfl)) | (split; (first | exact ⟨Ext.refl _, rfl⟩ | exact rfl); (exfalso; omega))))
              refine Chain.done ?_
              intro vs w5 hE5 hd5
              simp only [Act.put, SP.pick, SP.is, SP.box, id_eq, List.take_succ_cons, List.take_zero, List.drop_succ_cons, List.drop_zero, List.setIfInBounds_toArray, List.set_cons_zero, List.set_cons_succ]
              clear hd5
              have F10 := Lib.hid (Ext.trans hE.out hE5)
              clear hE5 p0 p1 x2 x3 q0 q1 y2 y3
              obtain ⟨x1, x2, x3⟩ := blk_cells (ext_blk F10.out bX7.out)
              have p0 := x1 0
              have p1 := x1 1
              simp at p0 p1
              clear x1
              obtain ⟨y1, y2, y3⟩ := blk_cells (ext_blk F10.out bQ7.out)
              have q0 := y1 0
              have q1 := y1 1
              simp at q0 q1
              clear y1
              obtain ⟨v1, v2, v3⟩ := blk_cells (ext_blk F10.out bM7.out)
              have r0 := v1 0
              have r1 := v1 1
              have r2 := v1 2
              have r3 := v1 3
              simp at r0 r1 r2 r3
              clear v1
              go_wp2_with fail
              refine (iCount _ Ax N cx (d + 1) _ x HXN.out.symm (els_up X7.out F10.out) (by omega)).mono ?_
              rintro e w11 ⟨rfl, h11⟩
              rw [HN0.out]
              have F11 := Lib.hid (Ext.trans F10.out h11)
              clear h11
              go_wp2_with fail
              go_roundw
              case rel => exact ⟨k + 1, by omega, by go_num, F11⟩
              case measure => simp [intOf]; omega
end Go.Proofs.Ytkmklafjcjkpdaa
