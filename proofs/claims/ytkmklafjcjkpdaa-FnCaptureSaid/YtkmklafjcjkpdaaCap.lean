/- The law on capture: its walk. -/
import Derived.Test.YtkmklafjcjkpdaaCaF
import Derived.Test.YtkmklafjcjkpdaaExd
import Derived.Test.YtkmklafjcjkpdaaLs
namespace Go.Proofs.Ytkmklafjcjkpdaa
open Go.RowKit
set_option linter.unusedVariables false
set_option linter.unusedSimpArgs false
theorem ex_true {P : List Int} {rg sn a b x y : Int} (h : exB P rg sn a b x y = true) : crB P sn a b = true ∧ rfV P rg sn [a, b] x = a := by
  unfold exB at h
  simp only [Bool.and_eq_true, decide_eq_true_eq] at h
  exact ⟨h.1.1.2, h.1.2⟩
theorem pl_in {P : List Int} {x : Int} (h : 0 ≤ x ∧ x < P.length) : plB P x = true := by
  unfold plB
  simp [h.1, h.2]
set_option maxRecDepth 8000 in
set_option maxHeartbeats 4000000 in
/-- The law's second half, as the walk meets it. -/
theorem walk_FnCapture (a0 : Option Addr) (n0 c0 : Nat) (w : World) (r0 : Rd Try.prog w 22 [.slice a0 n0 c0]) :
    Calls Try.prog 9 #[.slice a0 n0 c0] w fun e w' => e = .returned (.bool true) ∧ Below w.heap.size w w' := by
  obtain ⟨l0, hn, hr, hb, hm⟩ := view_code r0
  clear r0
  by_cases hbig : (1048576 : Int) < n0
  · go_enter Try.func9, Try.ntmps9
    go_wp2_with fail
    refine (big_ _ _ _ _ hm).mono ?_
    rintro e w' ⟨rfl, rfl⟩
    rw [decide_eq_true hbig]
    go_wp2_with fail
    go_ret
    exact ⟨rfl, Below.refl _ _⟩
  · have hn01 : n0 ≤ 1048576 := by omega
    go_enter Try.func9, Try.ntmps9
    go_wp2_with fail
    refine (big_ _ _ _ _ hm).mono ?_
    rintro e w' ⟨rfl, rfl⟩
    rw [decide_eq_false (by omega)]
    have H0 := Lib.hid hn
    have HR := Lib.hid hr
    have HY := Lib.hid hb
    clear hn hr hb hm hbig
    go_wp2_with fail
    refine (sDrawRcv _ _ _ _ l0 H0.out HR.out HY.out hn01).mono ?_
    rintro e w1 ⟨A, c, P, rg, sn, As, cs, L, r, rfl, hP, hL3, hCP, hCL, hE⟩
    obtain ⟨N, hN⟩ : ∃ N, N = P.length := ⟨_, rfl⟩
    obtain ⟨M, hM⟩ : ∃ M, M = L.length := ⟨_, rfl⟩
    have HN := Lib.hid hN.symm
    have HM := Lib.hid hM.symm
    rw [← hN] at hP ⊢
    rw [← hM] at hL3 ⊢
    have e2 := Ext.alloc_ w1 (.cells #[.slice A N c, .int .i64 rg, .int .i64 sn] 74)
    have E2 := Lib.hid (Ext.trans hE e2)
    have b2 := Lib.hid (new_blk1 w1 #[.slice A N c, .int .i64 rg, .int .i64 sn] 74)
    have C2 := Lib.hid (hCP.ext e2)
    have S2 := Lib.hid (hCL.ext e2)
    obtain ⟨V, hV⟩ : ∃ V, rfV P rg sn L r = V := ⟨_, rfl⟩
    have HV := Lib.hid hV
    clear hE e2 hCP hCL hN hM
    go_wp2_with fail
    generalize World.alloc w1 _ = w2 at *
    generalize w1.heap.size = g at *
    refine (iRcv _ _ _ _ _ _ _ _ _ _ P L HN.out C2.out (by omega) HM.out S2.out (by omega)).mono ?_
    rintro e w3 ⟨rfl, h3⟩
    rw [hV]
    have S3 := Lib.hid (S2.out.ext h3)
    have E3 := Lib.hid (Ext.trans E2.out h3)
    have b3 := Lib.hid (ext_blk h3 b2.out)
    have C3 := Lib.hid (C2.out.ext h3)
    clear h3 E2 b2 C2
    obtain ⟨x1, x2, x3⟩ := blk_cells (b3.out)
    have p0 := x1 0
    have p1 := x1 1
    have p2 := x1 2
    simp at p0 p1 p2
    clear x1
    go_wp2_with fail
    refine (sRcv _ _ _ _ _ _ _ _ _ _ P L HN.out C3.out (by omega) HM.out S3.out (by omega)).mono ?_
    rintro e w4 ⟨rfl, h4⟩
    rw [hV]
    have S4 := Lib.hid (S3.out.ext h4)
    clear p0 p1 p2 x2 x3
    have E4 := Lib.hid (Ext.trans E3.out h4)
    have b4 := Lib.hid (ext_blk h4 b3.out)
    have C4 := Lib.hid (C3.out.ext h4)
    clear h4 E3 b3 C3
    clear S2 S3 hV
    by_cases hV0 : V < 0
    · have Ek := Lib.hid E4.out
      obtain ⟨x1, x2, x3⟩ := blk_cells (b4.out)
      have p0 := x1 0
      have p1 := x1 1
      have p2 := x1 2
      simp at p0 p1 p2
      clear x1
      go_wp2_with fail
      clear p0 p1 p2 x2 x3
      refine (sDrawPl _ _ _ _ l0 H0.out (HR.out.ext Ek.out) HY.out hn01).mono ?_
      rintro e v1 ⟨A2, c2, P2, rg2, sn2, x, y, z, rfl, hP2, hrs2, hx, hy, hz, hC2, hE2⟩
      have PX := Lib.hid (pl_in hx)
      have PY := Lib.hid (pl_in hy)
      obtain ⟨N2, hN2⟩ : ∃ N2, N2 = P2.length := ⟨_, rfl⟩
      have HN2 := Lib.hid hN2.symm
      rw [← hN2] at hP2 hx hy hz ⊢
      have e2 := Ext.alloc_ v1 (.cells #[.slice A2 N2 c2, .int .i64 rg2, .int .i64 sn2] 74)
      have hzz : (v1.alloc (.cells #[.slice A2 N2 c2, .int .i64 rg2, .int .i64 sn2] 74)).heap.size = v1.heap.size + 1 := by simp
      have E11 := Lib.hid (Ext.trans Ek.out (Ext.trans hE2 e2))
      have b11 := Lib.hid (new_blk1 v1 #[.slice A2 N2 c2, .int .i64 rg2, .int .i64 sn2] 74)
      have C11 := Lib.hid (hC2.ext e2)
      have hl2 : N2 ≤ 1048576 := by omega
      clear hC2 hE2 e2 hN2
      go_wp2_with fail
      generalize World.alloc v1 _ = v2 at *
      generalize v1.heap.size = g2 at *
      have e3 := Ext.alloc_ v2 (.cells #[.int .i64 x] 3)
      have hL := cel_lit v2 3 #[.int .i64 x]
      rw [hzz] at hL
      have HL := Lib.hid hL
      have C11' := Lib.hid (C11.out.ext e3)
      refine (iRcv (ns := 1) _ _ _ _ _ _ _ _ _ P2 [x] HN2.out C11'.out hl2 rfl HL.out (by omega)).mono ?_
      rintro e v12 ⟨rfl, h12'⟩
      rw [rf_one PX.out PY.out hrs2]
      obtain ⟨cr, hcr⟩ : ∃ cr, crB P2 rg2 x y = cr := ⟨_, rfl⟩
      rw [hcr]
      have HCR := Lib.hid hcr
      clear hcr
      obtain ⟨one, hone⟩ : ∃ o, (if cr = true then x else -1) = o := ⟨_, rfl⟩
      rw [hone]
      have HONE := Lib.hid (show (cr = true ∧ one = x) ∨ (cr = false ∧ one = -1) by rw [← hone]; cases cr <;> simp)
      clear hone
      have h12 := Ext.trans e3 h12'
      clear e3 hL HL C11' h12' hzz
      have E12 := Lib.hid (Ext.trans E11.out h12)
      have b12 := Lib.hid (ext_blk h12 b11.out)
      have C12 := Lib.hid (C11.out.ext h12)
      clear h12 E11 b11 C11
      obtain ⟨x1, x2, x3⟩ := blk_cells (b12.out)
      have p0 := x1 0
      have p1 := x1 1
      have p2 := x1 2
      simp at p0 p1 p2
      clear x1
      go_wp2_with fail
      refine (iExp _ _ _ _ _ _ _ _ _ _ P2 HN2.out C12.out hl2).mono ?_
      rintro e v13 ⟨rfl, h13⟩
      obtain ⟨ex, hex⟩ : ∃ ex, exB P2 rg2 sn2 x y z 0 = ex := ⟨_, rfl⟩
      rw [hex]
      have HEX := Lib.hid hex
      clear hex
      clear p0 p1 p2 x2 x3
      have E13 := Lib.hid (Ext.trans E12.out h13)
      have b13 := Lib.hid (ext_blk h13 b12.out)
      have C13 := Lib.hid (C12.out.ext h13)
      clear h13 E12 b12 C12
      obtain ⟨x1, x2, x3⟩ := blk_cells (b13.out)
      have p0 := x1 0
      have p1 := x1 1
      have p2 := x1 2
      simp at p0 p1 p2
      clear x1
      go_wp2_with fail
      refine (iCr _ _ _ _ _ _ P2 _ _ HN2.out C13.out hl2).mono ?_
      rintro e v14 ⟨rfl, h14⟩
      clear p0 p1 p2 x2 x3
      have E14 := Lib.hid (Ext.trans E13.out h14)
      have b14 := Lib.hid (ext_blk h14 b13.out)
      have C14 := Lib.hid (C13.out.ext h14)
      clear h14 E13 b13 C13
      rw [HCR.out]
      have hgo : ∃ q, (one == x) = q ∧ q = cr := ⟨_, rfl, by rcases HONE.out with ⟨h1, h2⟩ | ⟨h1, h2⟩; rw [h1, h2]; simp; rw [h1, h2]; simp; omega⟩
      obtain ⟨x1, x2, x3⟩ := blk_cells (b14.out)
      have p0 := x1 0
      have p1 := x1 1
      have p2 := x1 2
      simp at p0 p1 p2
      clear x1
      have e4 := Ext.alloc_ v14 (.cells #[.int .i64 x, .int .i64 y] 3)
      have HL := Lib.hid (cel_lit v14 3 #[.int .i64 x, .int .i64 y])
      have C14' := Lib.hid (C14.out.ext e4)
      have hcn : (x = one ∧ cr = true) ∨ (one = -1 ∧ cr = false) := by rcases HONE.out with ⟨h1, h2⟩ | ⟨h1, h2⟩; exact .inl ⟨h2.symm, h1⟩; exact .inr ⟨h2, h1⟩
      clear hgo
      rcases hcn with ⟨h1, h2⟩ | ⟨h1, h2⟩
      · subst h1 h2
        clear HONE
        go_wp2_with fail
        refine (iRcv (ns := 2) _ _ _ _ _ _ _ _ _ P2 [x, y] HN2.out C14'.out hl2 rfl HL.out (by omega)).mono ?_
        rintro e v15 ⟨rfl, h15'⟩
        rw [rf_in (by simp)]
        have h15 := Ext.trans e4 h15'
        clear e4 HL C14' h15'
        clear p0 p1 p2 x2 x3
        have E15 := Lib.hid (Ext.trans E14.out h15)
        have b15 := Lib.hid (ext_blk h15 b14.out)
        have C15 := Lib.hid (C14.out.ext h15)
        clear h15 E14 b14 C14
        cases ex with
        | false =>
          go_wp2_with fail
          go_ret
          exact ⟨by first | rfl | (simp; done) | (simp; omega), E15.out⟩
        | true =>
          obtain ⟨t1, t2⟩ := ex_true HEX.out
          have T1 := Lib.hid t1
          have T2 := Lib.hid t2
          clear t1 t2
          obtain ⟨x1, x2, x3⟩ := blk_cells (b15.out)
          have p0 := x1 0
          have p1 := x1 1
          have p2 := x1 2
          simp at p0 p1 p2
          clear x1
          go_wp2_with fail
          refine (iCs _ _ _ _ _ _ P2 _ _ HN2.out C15.out hl2).mono ?_
          rintro e v16 ⟨rfl, h16⟩
          rw [T1.out]
          clear p0 p1 p2 x2 x3
          have E16 := Lib.hid (Ext.trans E15.out h16)
          have b16 := Lib.hid (ext_blk h16 b15.out)
          have C16 := Lib.hid (C15.out.ext h16)
          clear h16 E15 b15 C15
          obtain ⟨x1, x2, x3⟩ := blk_cells (b16.out)
          have p0 := x1 0
          have p1 := x1 1
          have p2 := x1 2
          simp at p0 p1 p2
          clear x1
          have e5 := Ext.alloc_ v16 (.cells #[.int .i64 x, .int .i64 y] 3)
          have HL := Lib.hid (cel_lit v16 3 #[.int .i64 x, .int .i64 y])
          have C16' := Lib.hid (C16.out.ext e5)
          go_wp2_with fail
          refine (iRcv (ns := 2) _ _ _ _ _ _ _ _ _ P2 [x, y] HN2.out C16'.out hl2 rfl HL.out (by omega)).mono ?_
          rintro e v17 ⟨rfl, h17⟩
          rw [T2.out]
          have E17 := Lib.hid (Ext.trans E16.out (Ext.trans e5 h17))
          clear h17 e5
          go_wp2_with fail
          go_ret
          exact ⟨by first | rfl | (simp; done) | (simp; omega), E17.out⟩
      · subst h1 h2
        clear HONE
        go_wp2_with fail
        all_goals first | (exfalso; rename_i hbad; simp at hbad; omega) | skip
        refine (iRcv (ns := 2) _ _ _ _ _ _ _ _ _ P2 [x, y] HN2.out C14'.out hl2 rfl HL.out (by omega)).mono ?_
        rintro e v15 ⟨rfl, h15'⟩
        rw [rf_in (by simp)]
        have h15 := Ext.trans e4 h15'
        clear e4 HL C14' h15'
        clear p0 p1 p2 x2 x3
        have E15 := Lib.hid (Ext.trans E14.out h15)
        have b15 := Lib.hid (ext_blk h15 b14.out)
        have C15 := Lib.hid (C14.out.ext h15)
        clear h15 E14 b14 C14
        cases ex with
        | false =>
          go_wp2_with fail
          go_ret
          exact ⟨by first | rfl | (simp; done) | (simp; omega), E15.out⟩
        | true =>
          obtain ⟨t1, t2⟩ := ex_true HEX.out
          have T1 := Lib.hid t1
          have T2 := Lib.hid t2
          clear t1 t2
          obtain ⟨x1, x2, x3⟩ := blk_cells (b15.out)
          have p0 := x1 0
          have p1 := x1 1
          have p2 := x1 2
          simp at p0 p1 p2
          clear x1
          go_wp2_with fail
          refine (iCs _ _ _ _ _ _ P2 _ _ HN2.out C15.out hl2).mono ?_
          rintro e v16 ⟨rfl, h16⟩
          rw [T1.out]
          clear p0 p1 p2 x2 x3
          have E16 := Lib.hid (Ext.trans E15.out h16)
          have b16 := Lib.hid (ext_blk h16 b15.out)
          have C16 := Lib.hid (C15.out.ext h16)
          clear h16 E15 b15 C15
          obtain ⟨x1, x2, x3⟩ := blk_cells (b16.out)
          have p0 := x1 0
          have p1 := x1 1
          have p2 := x1 2
          simp at p0 p1 p2
          clear x1
          have e5 := Ext.alloc_ v16 (.cells #[.int .i64 x, .int .i64 y] 3)
          have HL := Lib.hid (cel_lit v16 3 #[.int .i64 x, .int .i64 y])
          have C16' := Lib.hid (C16.out.ext e5)
          go_wp2_with fail
          refine (iRcv (ns := 2) _ _ _ _ _ _ _ _ _ P2 [x, y] HN2.out C16'.out hl2 rfl HL.out (by omega)).mono ?_
          rintro e v17 ⟨rfl, h17⟩
          rw [T2.out]
          have E17 := Lib.hid (Ext.trans E16.out (Ext.trans e5 h17))
          clear h17 e5
          go_wp2_with fail
          go_ret
          exact ⟨by first | rfl | (simp; done) | (simp; omega), E17.out⟩
    · have hrp := rf_pos (P := P) (rg := rg) (sn := sn) (L := L) (r := r) (by rw [HV.out]; omega)
      rw [HV.out] at hrp
      obtain ⟨g1, g2, g3, g4⟩ := hrp
      have G1 := Lib.hid g1
      have G2 := Lib.hid g2
      have G3 := Lib.hid g3
      have G4 := Lib.hid g4
      clear g1 g2 g3 g4
      have hV1 : 0 ≤ V := by omega
      go_wp2_with fail
      refine (has_ _ _ _ _ L V HM.out S4.out (by omega)).mono ?_
      rintro e w5 ⟨rfl, h5⟩
      rw [decide_eq_true G1.out]
      have S5 := Lib.hid (S4.out.ext h5)
      have E5 := Lib.hid (Ext.trans E4.out h5)
      have b5 := Lib.hid (ext_blk h5 b4.out)
      have C5 := Lib.hid (C4.out.ext h5)
      clear h5 E4 b4 C4
      go_wp2_with fail
      refine (has_ _ _ _ _ L r HM.out S5.out (by omega)).mono ?_
      rintro e w6 ⟨rfl, h6⟩
      rw [decide_eq_false G2.out]
      have S6 := Lib.hid (S5.out.ext h6)
      have E6 := Lib.hid (Ext.trans E5.out h6)
      have b6 := Lib.hid (ext_blk h6 b5.out)
      have C6 := Lib.hid (C5.out.ext h6)
      clear h6 E5 b5 C5
      obtain ⟨x1, x2, x3⟩ := blk_cells (b6.out)
      have p0 := x1 0
      have p1 := x1 1
      have p2 := x1 2
      simp at p0 p1 p2
      clear x1
      go_wp2_with fail
      refine (iCr _ _ _ _ _ _ P _ _ HN.out C6.out (by omega)).mono ?_
      rintro e w7 ⟨rfl, h7⟩
      rw [G3.out]
      have S7 := Lib.hid (S6.out.ext h7)
      clear p0 p1 p2 x2 x3
      have E7 := Lib.hid (Ext.trans E6.out h7)
      have b7 := Lib.hid (ext_blk h7 b6.out)
      have C7 := Lib.hid (C6.out.ext h7)
      clear h7 E6 b6 C6
      clear S4 S5 S6
      have hl : N ≤ 1048576 := by omega
      obtain ⟨xb, hxb⟩ : ∃ x, dstV P V r = x := ⟨_, rfl⟩
      obtain ⟨x2b, hx2⟩ : ∃ x, IntKind.i64.wrap (2 * xb) = x := ⟨_, rfl⟩
      have Y2 := Lib.hid hxb
      have HX2 := Lib.hid (show wrap64 (2 * dstV P V r) = x2b by rw [hxb, ← hx2]; simp [wrap64, IntKind.wrap_i64])
      clear hxb
      go_wp2_with fail
      go_loopw [7] (fun i wr => ∃ k : Nat, k ≤ M ∧ i = .int .i64 k ∧ Hid (Ext w7 wr)) (fun i _ => M - (intOf i).toNat)
      case atStart => exact ⟨0, Nat.zero_le _, rfl, Lib.hid (Ext.refl _)⟩
      case round =>
        obtain ⟨k, hk, rfl, hE⟩ := hrel
        by_cases hlt : k < M
        · have hkl : k < L.length := by rw [HM.out]; exact hlt
          obtain ⟨bs, os, rfl, h5, h6⟩ := (S7.out.ext hE.out).map_at (List.ne_nil_of_length_pos (by omega))
          have hck := h6 k hkl
          have hlt' : (k : Int) < (M : Int) := by omega
          have hk0 : (0 : Int) ≤ (k : Int) := by omega
          have HF := Lib.hid (G4.out _ (List.getElem_mem hkl))
          generalize L[k] = s at *
          have HW := Lib.hid (C7.out.ext hE.out)
          clear h6
          obtain ⟨x1, x2, x3⟩ := blk_cells (ext_blk hE.out b7.out)
          have p0 := x1 0
          have p1 := x1 1
          have p2 := x1 2
          simp at p0 p1 p2
          clear x1
          obtain ⟨xs, hxs⟩ : ∃ x, dstV P s r = x := ⟨_, rfl⟩
          have Y1 := Lib.hid hxs
          clear hxs
          by_cases c2 : s = V
          · subst c2
            go_wp2_with fail
            refine wp_region_chain 30 (by kernel_rfl) (by kernel_rfl) ?_
            simp only [List.take_succ_cons, List.take_zero, List.drop_succ_cons, List.drop_zero]
            iterate 5 (apply Chain.quiet; · (intro vs wq hEq hd; obtain ⟨hcq, hfq⟩ := bcell hEq; clear hEq hd; (try simp only [Act.put, SP.pick, SP.is, SP.box, id_eq, List.take_succ_cons, List.take_zero, List.drop_succ_cons, List.drop_zero, List.setIfInBounds_toArray, List.set_cons_zero, List.set_cons_succ]); refine growOp_go ?_; go_simp; first | exact ⟨Ext.refl _, rfl⟩ | exact rfl | (split; (exfalso; omega); (first | exact ⟨Ext.refl _, rfl⟩ | exact rfl)) | (split; (first | exact ⟨Ext.refl _, rfl⟩ | exact rfl); (exfalso; omega))))
            (refine Chain.quiet (V := .bool false) ?_ ?_; · (intro vs wq hEq hd; obtain ⟨hcq, hfq⟩ := bcell hEq; clear hEq hd; (try simp only [Act.put, SP.pick, SP.is, SP.box, id_eq, List.take_succ_cons, List.take_zero, List.drop_succ_cons, List.drop_zero, List.setIfInBounds_toArray, List.set_cons_zero, List.set_cons_succ]); refine growOp_go ?_; go_simp; first | exact Ext.refl _ | exact ⟨Ext.refl _, rfl⟩ | (refine ⟨Ext.refl _, ?_⟩; first | omega | (simp; omega) | (simp; done))))
            iterate 24 (apply Chain.quiet; · (intro vs wq hEq hd; obtain ⟨hcq, hfq⟩ := bcell hEq; clear hEq hd; (try simp only [Act.put, SP.pick, SP.is, SP.box, id_eq, List.take_succ_cons, List.take_zero, List.drop_succ_cons, List.drop_zero, List.setIfInBounds_toArray, List.set_cons_zero, List.set_cons_succ]); refine growOp_go ?_; go_simp; first | exact ⟨Ext.refl _, rfl⟩ | exact rfl | (split; (exfalso; omega); (first | exact ⟨Ext.refl _, rfl⟩ | exact rfl)) | (split; (first | exact ⟨Ext.refl _, rfl⟩ | exact rfl); (exfalso; omega))))
            refine Chain.done ?_
            intro vs w5 hE5 hd5
            simp only [Act.put, SP.pick, SP.is, SP.box, id_eq, List.take_succ_cons, List.take_zero, List.drop_succ_cons, List.drop_zero, List.setIfInBounds_toArray, List.set_cons_zero, List.set_cons_succ]
            clear hd5
            have E5 := Lib.hid (Ext.trans hE.out hE5)
            clear hE5
            go_wp2_with fail
            go_roundw
            case rel => exact ⟨k + 1, by omega, by go_num, E5⟩
            case measure => simp [intOf]; omega
          cases hs : crB P sn s r with
          | false =>
            have Y3 := Lib.hid hs
            clear hs
            go_wp2_with fail
            refine wp_region_chain 30 (by kernel_rfl) (by kernel_rfl) ?_
            simp only [List.take_succ_cons, List.take_zero, List.drop_succ_cons, List.drop_zero]
            iterate 5 (apply Chain.quiet; · (intro vs wq hEq hd; obtain ⟨hcq, hfq⟩ := bcell hEq; clear hEq hd; (try simp only [Act.put, SP.pick, SP.is, SP.box, id_eq, List.take_succ_cons, List.take_zero, List.drop_succ_cons, List.drop_zero, List.setIfInBounds_toArray, List.set_cons_zero, List.set_cons_succ]); refine growOp_go ?_; go_simp; first | exact ⟨Ext.refl _, rfl⟩ | exact rfl | (split; (exfalso; omega); (first | exact ⟨Ext.refl _, rfl⟩ | exact rfl)) | (split; (first | exact ⟨Ext.refl _, rfl⟩ | exact rfl); (exfalso; omega))))
            (refine Chain.quiet (V := .bool true) ?_ ?_; · (intro vs wq hEq hd; obtain ⟨hcq, hfq⟩ := bcell hEq; clear hEq hd; (try simp only [Act.put, SP.pick, SP.is, SP.box, id_eq, List.take_succ_cons, List.take_zero, List.drop_succ_cons, List.drop_zero, List.setIfInBounds_toArray, List.set_cons_zero, List.set_cons_succ]); refine growOp_go ?_; go_simp; first | exact Ext.refl _ | exact ⟨Ext.refl _, rfl⟩ | (refine ⟨Ext.refl _, ?_⟩; first | omega | (simp; omega) | (simp; done))))
            iterate 7 (apply Chain.quiet; · (intro vs wq hEq hd; obtain ⟨hcq, hfq⟩ := bcell hEq; clear hEq hd; (try simp only [Act.put, SP.pick, SP.is, SP.box, id_eq, List.take_succ_cons, List.take_zero, List.drop_succ_cons, List.drop_zero, List.setIfInBounds_toArray, List.set_cons_zero, List.set_cons_succ]); refine growOp_go ?_; go_simp; first | exact ⟨Ext.refl _, rfl⟩ | exact rfl | (split; (exfalso; omega); (first | exact ⟨Ext.refl _, rfl⟩ | exact rfl)) | (split; (first | exact ⟨Ext.refl _, rfl⟩ | exact rfl); (exfalso; omega))))
            (apply Chain.quiet; · (intro vs wq hEq hd; obtain ⟨hcq, hfq⟩ := bcell hEq; have hCq := Lib.hid (Cel.ext HW.out hEq); clear hEq hd; (try simp only [Act.put, SP.pick, SP.is, SP.box, id_eq, List.take_succ_cons, List.take_zero, List.drop_succ_cons, List.drop_zero, List.setIfInBounds_toArray, List.set_cons_zero, List.set_cons_succ]); refine growOp_go ?_; go_simp; refine (sCs _ _ _ _ _ _ P _ _ HN.out hCq.out hl).mono ?_; rintro e w5 ⟨rfl, hb⟩; rw [Y3.out]; first | exact ⟨rfl, hb⟩ | exact ⟨_, rfl, hb, rfl⟩))
            iterate 16 (apply Chain.quiet; · (intro vs wq hEq hd; obtain ⟨hcq, hfq⟩ := bcell hEq; clear hEq hd; (try simp only [Act.put, SP.pick, SP.is, SP.box, id_eq, List.take_succ_cons, List.take_zero, List.drop_succ_cons, List.drop_zero, List.setIfInBounds_toArray, List.set_cons_zero, List.set_cons_succ]); refine growOp_go ?_; go_simp; first | exact ⟨Ext.refl _, rfl⟩ | exact rfl | (split; (exfalso; omega); (first | exact ⟨Ext.refl _, rfl⟩ | exact rfl)) | (split; (first | exact ⟨Ext.refl _, rfl⟩ | exact rfl); (exfalso; omega))))
            refine Chain.done ?_
            intro vs w5 hE5 hd5
            simp only [Act.put, SP.pick, SP.is, SP.box, id_eq, List.take_succ_cons, List.take_zero, List.drop_succ_cons, List.drop_zero, List.setIfInBounds_toArray, List.set_cons_zero, List.set_cons_succ]
            clear hd5
            have E5 := Lib.hid (Ext.trans hE.out hE5)
            clear hE5
            go_wp2_with fail
            go_roundw
            case rel => exact ⟨k + 1, by omega, by go_num, E5⟩
            case measure => simp [intOf]; omega
          | true =>
            have Y3 := Lib.hid hs
            have c3 : ¬ xs < x2b := by have h := HF.out c2 hs; rw [Y1.out, HX2.out] at h; omega
            clear hs
            go_wp2_with fail
            refine wp_region_chain 30 (by kernel_rfl) (by kernel_rfl) ?_
            simp only [List.take_succ_cons, List.take_zero, List.drop_succ_cons, List.drop_zero]
            iterate 5 (apply Chain.quiet; · (intro vs wq hEq hd; obtain ⟨hcq, hfq⟩ := bcell hEq; clear hEq hd; (try simp only [Act.put, SP.pick, SP.is, SP.box, id_eq, List.take_succ_cons, List.take_zero, List.drop_succ_cons, List.drop_zero, List.setIfInBounds_toArray, List.set_cons_zero, List.set_cons_succ]); refine growOp_go ?_; go_simp; first | exact ⟨Ext.refl _, rfl⟩ | exact rfl | (split; (exfalso; omega); (first | exact ⟨Ext.refl _, rfl⟩ | exact rfl)) | (split; (first | exact ⟨Ext.refl _, rfl⟩ | exact rfl); (exfalso; omega))))
            (refine Chain.quiet (V := .bool true) ?_ ?_; · (intro vs wq hEq hd; obtain ⟨hcq, hfq⟩ := bcell hEq; clear hEq hd; (try simp only [Act.put, SP.pick, SP.is, SP.box, id_eq, List.take_succ_cons, List.take_zero, List.drop_succ_cons, List.drop_zero, List.setIfInBounds_toArray, List.set_cons_zero, List.set_cons_succ]); refine growOp_go ?_; go_simp; first | exact Ext.refl _ | exact ⟨Ext.refl _, rfl⟩ | (refine ⟨Ext.refl _, ?_⟩; first | omega | (simp; omega) | (simp; done))))
            iterate 7 (apply Chain.quiet; · (intro vs wq hEq hd; obtain ⟨hcq, hfq⟩ := bcell hEq; clear hEq hd; (try simp only [Act.put, SP.pick, SP.is, SP.box, id_eq, List.take_succ_cons, List.take_zero, List.drop_succ_cons, List.drop_zero, List.setIfInBounds_toArray, List.set_cons_zero, List.set_cons_succ]); refine growOp_go ?_; go_simp; first | exact ⟨Ext.refl _, rfl⟩ | exact rfl | (split; (exfalso; omega); (first | exact ⟨Ext.refl _, rfl⟩ | exact rfl)) | (split; (first | exact ⟨Ext.refl _, rfl⟩ | exact rfl); (exfalso; omega))))
            (apply Chain.quiet; · (intro vs wq hEq hd; obtain ⟨hcq, hfq⟩ := bcell hEq; have hCq := Lib.hid (Cel.ext HW.out hEq); clear hEq hd; (try simp only [Act.put, SP.pick, SP.is, SP.box, id_eq, List.take_succ_cons, List.take_zero, List.drop_succ_cons, List.drop_zero, List.setIfInBounds_toArray, List.set_cons_zero, List.set_cons_succ]); refine growOp_go ?_; go_simp; refine (sCs _ _ _ _ _ _ P _ _ HN.out hCq.out hl).mono ?_; rintro e w5 ⟨rfl, hb⟩; rw [Y3.out]; first | exact ⟨rfl, hb⟩ | exact ⟨_, rfl, hb, rfl⟩))
            iterate 8 (apply Chain.quiet; · (intro vs wq hEq hd; obtain ⟨hcq, hfq⟩ := bcell hEq; clear hEq hd; (try simp only [Act.put, SP.pick, SP.is, SP.box, id_eq, List.take_succ_cons, List.take_zero, List.drop_succ_cons, List.drop_zero, List.setIfInBounds_toArray, List.set_cons_zero, List.set_cons_succ]); refine growOp_go ?_; go_simp; first | exact ⟨Ext.refl _, rfl⟩ | exact rfl | (split; (exfalso; omega); (first | exact ⟨Ext.refl _, rfl⟩ | exact rfl)) | (split; (first | exact ⟨Ext.refl _, rfl⟩ | exact rfl); (exfalso; omega))))
            (apply Chain.quiet; · (intro vs wq hEq hd; obtain ⟨hcq, hfq⟩ := bcell hEq; have hCq := Lib.hid (Cel.ext HW.out hEq); clear hEq hd; (try simp only [Act.put, SP.pick, SP.is, SP.box, id_eq, List.take_succ_cons, List.take_zero, List.drop_succ_cons, List.drop_zero, List.setIfInBounds_toArray, List.set_cons_zero, List.set_cons_succ]); refine growOp_go ?_; go_simp; refine (sDst _ _ _ _ _ _ P _ _ HN.out hCq.out hl).mono ?_; rintro e w5 ⟨rfl, hb⟩; rw [Y1.out]; first | exact ⟨rfl, hb⟩ | exact ⟨_, rfl, hb, rfl⟩))
            iterate 3 (apply Chain.quiet; · (intro vs wq hEq hd; obtain ⟨hcq, hfq⟩ := bcell hEq; clear hEq hd; (try simp only [Act.put, SP.pick, SP.is, SP.box, id_eq, List.take_succ_cons, List.take_zero, List.drop_succ_cons, List.drop_zero, List.setIfInBounds_toArray, List.set_cons_zero, List.set_cons_succ]); refine growOp_go ?_; go_simp; first | exact ⟨Ext.refl _, rfl⟩ | exact rfl | (split; (exfalso; omega); (first | exact ⟨Ext.refl _, rfl⟩ | exact rfl)) | (split; (first | exact ⟨Ext.refl _, rfl⟩ | exact rfl); (exfalso; omega))))
            (apply Chain.quiet; · (intro vs wq hEq hd; obtain ⟨hcq, hfq⟩ := bcell hEq; have hCq := Lib.hid (Cel.ext HW.out hEq); clear hEq hd; (try simp only [Act.put, SP.pick, SP.is, SP.box, id_eq, List.take_succ_cons, List.take_zero, List.drop_succ_cons, List.drop_zero, List.setIfInBounds_toArray, List.set_cons_zero, List.set_cons_succ]); refine growOp_go ?_; go_simp; refine (sDst _ _ _ _ _ _ P _ _ HN.out hCq.out hl).mono ?_; rintro e w5 ⟨rfl, hb⟩; rw [Y2.out]; first | exact ⟨rfl, hb⟩ | exact ⟨_, rfl, hb, rfl⟩))
            (apply Chain.quiet; · (intro vs wq hEq hd; obtain ⟨hcq, hfq⟩ := bcell hEq; clear hEq hd; (try simp only [Act.put, SP.pick, SP.is, SP.box, id_eq, List.take_succ_cons, List.take_zero, List.drop_succ_cons, List.drop_zero, List.setIfInBounds_toArray, List.set_cons_zero, List.set_cons_succ]); refine growOp_go ?_; go_simp; first | exact ⟨Ext.refl _, rfl⟩ | exact rfl | (split; (exfalso; omega); (first | exact ⟨Ext.refl _, rfl⟩ | exact rfl)) | (split; (first | exact ⟨Ext.refl _, rfl⟩ | exact rfl); (exfalso; omega))))
            (refine Chain.quiet (V := .bool false) ?_ ?_; · (intro vs wq hEq hd; obtain ⟨hcq, hfq⟩ := bcell hEq; clear hEq hd; (try simp only [Act.put, SP.pick, SP.is, SP.box, id_eq, List.take_succ_cons, List.take_zero, List.drop_succ_cons, List.drop_zero, List.setIfInBounds_toArray, List.set_cons_zero, List.set_cons_succ]); refine growOp_go ?_; go_simp; first | exact Ext.refl _ | exact ⟨Ext.refl _, rfl⟩ | (refine ⟨Ext.refl _, ?_⟩; first | omega | (simp; omega) | (simp; done))))
            (apply Chain.quiet; · (intro vs wq hEq hd; obtain ⟨hcq, hfq⟩ := bcell hEq; clear hEq hd; (try simp only [Act.put, SP.pick, SP.is, SP.box, id_eq, List.take_succ_cons, List.take_zero, List.drop_succ_cons, List.drop_zero, List.setIfInBounds_toArray, List.set_cons_zero, List.set_cons_succ]); refine growOp_go ?_; go_simp; first | exact ⟨Ext.refl _, rfl⟩ | exact rfl | (split; (exfalso; omega); (first | exact ⟨Ext.refl _, rfl⟩ | exact rfl)) | (split; (first | exact ⟨Ext.refl _, rfl⟩ | exact rfl); (exfalso; omega))))
            refine Chain.done ?_
            intro vs w5 hE5 hd5
            simp only [Act.put, SP.pick, SP.is, SP.box, id_eq, List.take_succ_cons, List.take_zero, List.drop_succ_cons, List.drop_zero, List.setIfInBounds_toArray, List.set_cons_zero, List.set_cons_succ]
            clear hd5
            have E5 := Lib.hid (Ext.trans hE.out hE5)
            clear hE5
            go_wp2_with fail
            go_roundw
            case rel => exact ⟨k + 1, by omega, by go_num, E5⟩
            case measure => simp [intOf]; omega
        · have hlt' : ¬ (k : Int) < (M : Int) := by omega
          have Ek := Lib.hid (Ext.trans E7.out hE.out)
          go_wp2_with fail
          refine (sDrawPl _ _ _ _ l0 H0.out (HR.out.ext Ek.out) HY.out hn01).mono ?_
          rintro e v1 ⟨A2, c2, P2, rg2, sn2, x, y, z, rfl, hP2, hrs2, hx, hy, hz, hC2, hE2⟩
          have PX := Lib.hid (pl_in hx)
          have PY := Lib.hid (pl_in hy)
          obtain ⟨N2, hN2⟩ : ∃ N2, N2 = P2.length := ⟨_, rfl⟩
          have HN2 := Lib.hid hN2.symm
          rw [← hN2] at hP2 hx hy hz ⊢
          have e2 := Ext.alloc_ v1 (.cells #[.slice A2 N2 c2, .int .i64 rg2, .int .i64 sn2] 74)
          have hzz : (v1.alloc (.cells #[.slice A2 N2 c2, .int .i64 rg2, .int .i64 sn2] 74)).heap.size = v1.heap.size + 1 := by simp
          have E11 := Lib.hid (Ext.trans Ek.out (Ext.trans hE2 e2))
          have b11 := Lib.hid (new_blk1 v1 #[.slice A2 N2 c2, .int .i64 rg2, .int .i64 sn2] 74)
          have C11 := Lib.hid (hC2.ext e2)
          have hl2 : N2 ≤ 1048576 := by omega
          clear hC2 hE2 e2 hN2
          go_wp2_with fail
          generalize World.alloc v1 _ = v2 at *
          generalize v1.heap.size = g2 at *
          have e3 := Ext.alloc_ v2 (.cells #[.int .i64 x] 3)
          have hL := cel_lit v2 3 #[.int .i64 x]
          rw [hzz] at hL
          have HL := Lib.hid hL
          have C11' := Lib.hid (C11.out.ext e3)
          refine (iRcv (ns := 1) _ _ _ _ _ _ _ _ _ P2 [x] HN2.out C11'.out hl2 rfl HL.out (by omega)).mono ?_
          rintro e v12 ⟨rfl, h12'⟩
          rw [rf_one PX.out PY.out hrs2]
          obtain ⟨cr, hcr⟩ : ∃ cr, crB P2 rg2 x y = cr := ⟨_, rfl⟩
          rw [hcr]
          have HCR := Lib.hid hcr
          clear hcr
          obtain ⟨one, hone⟩ : ∃ o, (if cr = true then x else -1) = o := ⟨_, rfl⟩
          rw [hone]
          have HONE := Lib.hid (show (cr = true ∧ one = x) ∨ (cr = false ∧ one = -1) by rw [← hone]; cases cr <;> simp)
          clear hone
          have h12 := Ext.trans e3 h12'
          clear e3 hL HL C11' h12' hzz
          have E12 := Lib.hid (Ext.trans E11.out h12)
          have b12 := Lib.hid (ext_blk h12 b11.out)
          have C12 := Lib.hid (C11.out.ext h12)
          clear h12 E11 b11 C11
          obtain ⟨x1, x2, x3⟩ := blk_cells (b12.out)
          have p0 := x1 0
          have p1 := x1 1
          have p2 := x1 2
          simp at p0 p1 p2
          clear x1
          go_wp2_with fail
          refine (iExp _ _ _ _ _ _ _ _ _ _ P2 HN2.out C12.out hl2).mono ?_
          rintro e v13 ⟨rfl, h13⟩
          obtain ⟨ex, hex⟩ : ∃ ex, exB P2 rg2 sn2 x y z 0 = ex := ⟨_, rfl⟩
          rw [hex]
          have HEX := Lib.hid hex
          clear hex
          clear p0 p1 p2 x2 x3
          have E13 := Lib.hid (Ext.trans E12.out h13)
          have b13 := Lib.hid (ext_blk h13 b12.out)
          have C13 := Lib.hid (C12.out.ext h13)
          clear h13 E12 b12 C12
          obtain ⟨x1, x2, x3⟩ := blk_cells (b13.out)
          have p0 := x1 0
          have p1 := x1 1
          have p2 := x1 2
          simp at p0 p1 p2
          clear x1
          go_wp2_with fail
          refine (iCr _ _ _ _ _ _ P2 _ _ HN2.out C13.out hl2).mono ?_
          rintro e v14 ⟨rfl, h14⟩
          clear p0 p1 p2 x2 x3
          have E14 := Lib.hid (Ext.trans E13.out h14)
          have b14 := Lib.hid (ext_blk h14 b13.out)
          have C14 := Lib.hid (C13.out.ext h14)
          clear h14 E13 b13 C13
          rw [HCR.out]
          have hgo : ∃ q, (one == x) = q ∧ q = cr := ⟨_, rfl, by rcases HONE.out with ⟨h1, h2⟩ | ⟨h1, h2⟩; rw [h1, h2]; simp; rw [h1, h2]; simp; omega⟩
          obtain ⟨x1, x2, x3⟩ := blk_cells (b14.out)
          have p0 := x1 0
          have p1 := x1 1
          have p2 := x1 2
          simp at p0 p1 p2
          clear x1
          have e4 := Ext.alloc_ v14 (.cells #[.int .i64 x, .int .i64 y] 3)
          have HL := Lib.hid (cel_lit v14 3 #[.int .i64 x, .int .i64 y])
          have C14' := Lib.hid (C14.out.ext e4)
          have hcn : (x = one ∧ cr = true) ∨ (one = -1 ∧ cr = false) := by rcases HONE.out with ⟨h1, h2⟩ | ⟨h1, h2⟩; exact .inl ⟨h2.symm, h1⟩; exact .inr ⟨h2, h1⟩
          clear hgo
          rcases hcn with ⟨h1, h2⟩ | ⟨h1, h2⟩
          · subst h1 h2
            clear HONE
            go_wp2_with fail
            refine (iRcv (ns := 2) _ _ _ _ _ _ _ _ _ P2 [x, y] HN2.out C14'.out hl2 rfl HL.out (by omega)).mono ?_
            rintro e v15 ⟨rfl, h15'⟩
            rw [rf_in (by simp)]
            have h15 := Ext.trans e4 h15'
            clear e4 HL C14' h15'
            clear p0 p1 p2 x2 x3
            have E15 := Lib.hid (Ext.trans E14.out h15)
            have b15 := Lib.hid (ext_blk h15 b14.out)
            have C15 := Lib.hid (C14.out.ext h15)
            clear h15 E14 b14 C14
            cases ex with
            | false =>
              go_wp2_with fail
              go_ret
              exact ⟨by first | rfl | (simp; done) | (simp; omega), E15.out⟩
            | true =>
              obtain ⟨t1, t2⟩ := ex_true HEX.out
              have T1 := Lib.hid t1
              have T2 := Lib.hid t2
              clear t1 t2
              obtain ⟨x1, x2, x3⟩ := blk_cells (b15.out)
              have p0 := x1 0
              have p1 := x1 1
              have p2 := x1 2
              simp at p0 p1 p2
              clear x1
              go_wp2_with fail
              refine (iCs _ _ _ _ _ _ P2 _ _ HN2.out C15.out hl2).mono ?_
              rintro e v16 ⟨rfl, h16⟩
              rw [T1.out]
              clear p0 p1 p2 x2 x3
              have E16 := Lib.hid (Ext.trans E15.out h16)
              have b16 := Lib.hid (ext_blk h16 b15.out)
              have C16 := Lib.hid (C15.out.ext h16)
              clear h16 E15 b15 C15
              obtain ⟨x1, x2, x3⟩ := blk_cells (b16.out)
              have p0 := x1 0
              have p1 := x1 1
              have p2 := x1 2
              simp at p0 p1 p2
              clear x1
              have e5 := Ext.alloc_ v16 (.cells #[.int .i64 x, .int .i64 y] 3)
              have HL := Lib.hid (cel_lit v16 3 #[.int .i64 x, .int .i64 y])
              have C16' := Lib.hid (C16.out.ext e5)
              go_wp2_with fail
              refine (iRcv (ns := 2) _ _ _ _ _ _ _ _ _ P2 [x, y] HN2.out C16'.out hl2 rfl HL.out (by omega)).mono ?_
              rintro e v17 ⟨rfl, h17⟩
              rw [T2.out]
              have E17 := Lib.hid (Ext.trans E16.out (Ext.trans e5 h17))
              clear h17 e5
              go_wp2_with fail
              go_ret
              exact ⟨by first | rfl | (simp; done) | (simp; omega), E17.out⟩
          · subst h1 h2
            clear HONE
            go_wp2_with fail
            all_goals first | (exfalso; rename_i hbad; simp at hbad; omega) | skip
            refine (iRcv (ns := 2) _ _ _ _ _ _ _ _ _ P2 [x, y] HN2.out C14'.out hl2 rfl HL.out (by omega)).mono ?_
            rintro e v15 ⟨rfl, h15'⟩
            rw [rf_in (by simp)]
            have h15 := Ext.trans e4 h15'
            clear e4 HL C14' h15'
            clear p0 p1 p2 x2 x3
            have E15 := Lib.hid (Ext.trans E14.out h15)
            have b15 := Lib.hid (ext_blk h15 b14.out)
            have C15 := Lib.hid (C14.out.ext h15)
            clear h15 E14 b14 C14
            cases ex with
            | false =>
              go_wp2_with fail
              go_ret
              exact ⟨by first | rfl | (simp; done) | (simp; omega), E15.out⟩
            | true =>
              obtain ⟨t1, t2⟩ := ex_true HEX.out
              have T1 := Lib.hid t1
              have T2 := Lib.hid t2
              clear t1 t2
              obtain ⟨x1, x2, x3⟩ := blk_cells (b15.out)
              have p0 := x1 0
              have p1 := x1 1
              have p2 := x1 2
              simp at p0 p1 p2
              clear x1
              go_wp2_with fail
              refine (iCs _ _ _ _ _ _ P2 _ _ HN2.out C15.out hl2).mono ?_
              rintro e v16 ⟨rfl, h16⟩
              rw [T1.out]
              clear p0 p1 p2 x2 x3
              have E16 := Lib.hid (Ext.trans E15.out h16)
              have b16 := Lib.hid (ext_blk h16 b15.out)
              have C16 := Lib.hid (C15.out.ext h16)
              clear h16 E15 b15 C15
              obtain ⟨x1, x2, x3⟩ := blk_cells (b16.out)
              have p0 := x1 0
              have p1 := x1 1
              have p2 := x1 2
              simp at p0 p1 p2
              clear x1
              have e5 := Ext.alloc_ v16 (.cells #[.int .i64 x, .int .i64 y] 3)
              have HL := Lib.hid (cel_lit v16 3 #[.int .i64 x, .int .i64 y])
              have C16' := Lib.hid (C16.out.ext e5)
              go_wp2_with fail
              refine (iRcv (ns := 2) _ _ _ _ _ _ _ _ _ P2 [x, y] HN2.out C16'.out hl2 rfl HL.out (by omega)).mono ?_
              rintro e v17 ⟨rfl, h17⟩
              rw [T2.out]
              have E17 := Lib.hid (Ext.trans E16.out (Ext.trans e5 h17))
              clear h17 e5
              go_wp2_with fail
              go_ret
              exact ⟨by first | rfl | (simp; done) | (simp; omega), E17.out⟩
end Go.Proofs.Ytkmklafjcjkpdaa
