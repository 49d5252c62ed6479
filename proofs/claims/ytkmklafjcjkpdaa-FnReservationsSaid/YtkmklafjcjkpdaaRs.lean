/- The law on reservations. -/
import Derived.Test.YtkmklafjcjkpdaaRsv
import Derived.Test.YtkmklafjcjkpdaaLs
import Derived.Test.YtkmklafjcjkpdaaHf
namespace Go.Proofs.Ytkmklafjcjkpdaa
open Go.RowKit
set_option linter.unusedVariables false
set_option linter.unusedSimpArgs false
theorem hear_no {u o r s kd fm ta sq fr du nw : Int} {n : Nat} (h : hrB u o r s kd fm ta sq fr du n nw = false) (h1 : resB u o r = true) (h2 : frB kd fm ta sq fr du n = true) (h3 : ta ≠ s) (h4 : 0 ≤ nw) (h5 : nw < 1000) : ¬ u < nw + 1 + du := by
  intro h6
  have : hrB u o r s kd fm ta sq fr du n nw = true := by
    unfold hrB
    rw [h1, h2, inB_mk (x := nw) (by omega) (by omega), decide_eq_true h6]
    simp [h3]
  rw [this] at h
  cases h
theorem hear_yes {u o r s kd fm ta sq fr du nw : Int} {n : Nat} (h : hrB u o r s kd fm ta sq fr du n nw = true) : u < nw + 1 + du ∧ ta ≠ s ∧ resB (nw + 1 + du) (holdV kd fm ta) fm = true ∧ (0 ≤ nw ∧ nw ≤ 999999998999) ∧ (0 ≤ du ∧ du ≤ 1000) ∧ (0 ≤ holdV kd fm ta ∧ holdV kd fm ta ≤ 15) ∧ (0 ≤ fm ∧ fm ≤ 15) := by
  simp only [hrB, Bool.and_eq_true, decide_eq_true_eq, Bool.not_eq_true', beq_eq_false_iff_ne] at h
  obtain ⟨⟨⟨⟨h1, h2⟩, h3⟩, h4⟩, h5⟩ := h
  obtain ⟨d, f, rc⟩ := frB_du h1
  have hn := inB_true h3
  have hH : 0 ≤ holdV kd fm ta ∧ holdV kd fm ta ≤ 15 := by
    unfold holdV
    split
    · rename_i hk
      subst hk
      simp [rcvB] at rc
      exact inB_true rc.1
    · exact f
  refine ⟨h5, h4, ?_, hn, d, hH, f⟩
  unfold resB
  rw [inB_mk (x := nw + 1 + du) (by omega) (by omega), inB_mk (x := holdV kd fm ta) hH.1 hH.2, inB_mk (x := fm) f.1 f.2]
  rfl
theorem cmb_max (u U : Int) : cmb u U u U = max u U := by
  unfold cmb
  split <;> omega
theorem rel_res (nw U : Int) : decide (max 0 nw < relV (decide (nw < U) && !false) U) = false := by
  by_cases h : nw < U
  · simp [h, relV]
    omega
  · simp [h, relV]
    omega
theorem req_c : reqV 1 20 = 6 := by decide
theorem slots_c : slotsV 1 20 = 4 := by decide
set_option maxRecDepth 8000 in
set_option maxHeartbeats 8000000 in
theorem walk_FnReservations (a0 : Option Addr) (n0 c0 : Nat) (w : World) (r0 : Rd Try.prog w 22 [.slice a0 n0 c0]) :
    Calls Try.prog 10 #[.slice a0 n0 c0] w fun e w' => e = .returned (.bool true) ∧ Below w.heap.size w w' := by
  obtain ⟨l, hn, hr, hb, hm⟩ := view_code r0
  clear r0
  by_cases hbig : (1048576 : Int) < n0
  · go_enter Try.func10, Try.ntmps10
    go_wp2_with fail
    refine (big_ _ _ _ _ hm).mono ?_
    rintro e w' ⟨rfl, rfl⟩
    rw [decide_eq_true hbig]
    go_wp2_with fail
    go_ret
    exact ⟨rfl, Below.refl _ _⟩
  · go_enter Try.func10, Try.ntmps10
    go_wp2_with fail
    refine (big_ _ _ _ _ hm).mono ?_
    rintro e w' ⟨rfl, rfl⟩
    rw [decide_eq_false (by omega)]
    go_wp2_with fail
    refine (sDrawHear _ _ _ _ l hn hr hb (by omega)).mono ?_
    rintro e w1 ⟨u, o, r, s, kd, fm, ta, sq, fr, mo, re, du, A, n, c, nw, rfl, hRI, hFB, hnl, hnw, hE⟩
    have b3 := alloc_blk (.cells #[.int .i64 kd, .int .i64 fm, .int .i64 ta, .int .i64 sq, .int .i64 fr, .bool mo, .bool re, .int .i64 du, .slice A n c] 66) (new_blk1 w1 #[.int .i64 u, .int .i64 o, .int .i64 r] 85)
    have b5 := new_blk2 w1 (.cells #[.int .i64 u, .int .i64 o, .int .i64 r] 85) #[.int .i64 kd, .int .i64 fm, .int .i64 ta, .int .i64 sq, .int .i64 fr, .bool mo, .bool re, .int .i64 du, .slice A n c] 66
    have E2 := Lib.hid (Ext.trans hE (Ext.trans (Ext.alloc_ w1 (.cells #[.int .i64 u, .int .i64 o, .int .i64 r] 85)) (Ext.alloc_ _ (.cells #[.int .i64 kd, .int .i64 fm, .int .i64 ta, .int .i64 sq, .int .i64 fr, .bool mo, .bool re, .int .i64 du, .slice A n c] 66))))
    have b3' := Lib.hid b3
    have b5' := Lib.hid b5
    clear hn hr hb hm hbig hE b3 b5 hnl
    obtain ⟨hd, hh⟩ : ∃ hd, hrB u o r s kd fm ta sq fr du n nw = hd := ⟨_, rfl⟩
    have HH := Lib.hid hh
    clear hh
    go_wp2_with fail
    refine (iHear u o r s kd fm ta sq fr mo re du A n c nw _ hd HH.out).mono ?_
    rintro e w3 ⟨rfl, h3⟩
    have HU := Lib.hid (show (hd = false → sel hd (nw + 1 + du) u = u ∧ sel hd (holdV kd fm ta) o = o ∧ sel hd fm r = r) ∧ (hd = true → sel hd (nw + 1 + du) u = nw + 1 + du ∧ sel hd (holdV kd fm ta) o = holdV kd fm ta ∧ sel hd fm r = fm) from ⟨fun h => by subst h; exact ⟨rfl, rfl, rfl⟩, fun h => by subst h; exact ⟨rfl, rfl, rfl⟩⟩)
    generalize sel hd (nw + 1 + du) u = U at *
    generalize sel hd (holdV kd fm ta) o = H at *
    generalize sel hd fm r = B at *
    have gU : ¬ U < u := by
      cases hd with
      | false => have := (HU.out.1 rfl).1; omega
      | true => have h1 := (HU.out.2 rfl).1; have h2 := (hear_yes HH.out).1; omega
    have hHb : -1 ≤ H ∧ H ≤ 16 := by
      cases hd with
      | false => have := (HU.out.1 rfl).2.1; unfold RI at hRI; omega
      | true => have h1 := (HU.out.2 rfl).2.1; have h2 := (hear_yes HH.out).2.2.2.2.2.1; omega
    have e7 := Ext.alloc_ w3 (.cells #[.int .i64 U, .int .i64 H, .int .i64 B] 85)
    have b7 := Lib.hid (new_blk1 w3 #[.int .i64 U, .int .i64 H, .int .i64 B] 85)
    have b3 := Lib.hid (ext_blk (Ext.trans h3 e7) b3'.out)
    have b5 := Lib.hid (ext_blk (Ext.trans h3 e7) b5'.out)
    have E7 := Lib.hid (Ext.trans E2.out (Ext.trans h3 e7))
    have b33 := Lib.hid (ext_blk h3 b3'.out)
    clear h3 e7 b3' b5' E2 hRI hFB
    obtain ⟨x1, x2, x3⟩ := blk_cells b33.out
    have p0 := x1 0
    have p1 := x1 1
    have p2 := x1 2
    simp at p0 p1 p2
    clear x1
    go_upto_region 7 with fail
    clear p0 p1 p2 x2 x3 b33
    generalize World.alloc w3 _ = w4 at *
    generalize w3.heap.size = g7 at *
    generalize w1.heap.size + 1 = g5 at *
    generalize w1.heap.size = g3 at *
    obtain ⟨x1, x2, x3⟩ := blk_cells b3.out
    have p0 := x1 0
    have p1 := x1 1
    have p2 := x1 2
    simp at p0 p1 p2
    clear x1
    obtain ⟨y1, y2, y3⟩ := blk_cells b5.out
    have q0 := y1 0
    have q1 := y1 1
    have q2 := y1 2
    have q3 := y1 3
    have q4 := y1 4
    have q5 := y1 5
    have q6 := y1 6
    have q7 := y1 7
    have q8 := y1 8
    simp at q0 q1 q2 q3 q4 q5 q6 q7 q8
    clear y1
    obtain ⟨z1, z2, z3⟩ := blk_cells b7.out
    have o0 := z1 0
    have o1 := z1 1
    have o2 := z1 2
    simp at o0 o1 o2
    clear z1
    have w1' : IntKind.i64.wrap (nw + 1) = nw + 1 := IntWalk.i64_in _ (by omega)
    have wH : IntKind.i64.wrap (H + 1) = H + 1 := IntWalk.i64_in _ (by omega)
    go_cut [65] from 22 (fun v wx => v = .bool false ∧ wx.heap[g3]? = some (.cells #[.int .i64 u, .int .i64 o, .int .i64 r] 85 (0, 0)) ∧ wx.heap[g5]? = some (.cells #[.int .i64 kd, .int .i64 fm, .int .i64 ta, .int .i64 sq, .int .i64 fr, .bool mo, .bool re, .int .i64 du, .slice A n c] 66 (0, 0)) ∧ wx.heap[g7]? = some (.cells #[.int .i64 U, .int .i64 H, .int .i64 B] 85 (0, 0)) ∧ Hid (Ext w wx))
    case first =>
      cases hd with
      | false =>
        obtain ⟨e1, e2, e3⟩ := HU.out.1 rfl
        subst e1 e2 e3
        go_wp2_with fail
        go_meet
        exact ⟨rfl, b3.out, b5.out, b7.out, E7⟩
      | true =>
        obtain ⟨e1, e2, e3⟩ := HU.out.2 rfl
        obtain ⟨y1', y2', y3', y4', y5', y6', y7'⟩ := hear_yes HH.out
        have Y3 := Lib.hid y3'
        rw [← e2] at Y3
        clear e2 y3' y6'
        subst e1 e3
        have hne : ¬ (nw + 1 + du = u) := by omega
        have hts : (ta == s) = false := by simp [y2']
        have w2' : IntKind.i64.wrap (nw + 1 + du) = nw + 1 + du := IntWalk.i64_in _ (by omega)
        go_wp2_with fail
        refine (iResOk _ _ _ _).mono ?_
        rintro e w5 ⟨rfl, h5⟩
        rw [Y3.out]
        obtain ⟨hc5, hf5⟩ := bcell h5
        go_wp2_with fail
        refine (iMay _ _ _ _ _ _).mono ?_
        rintro e w6 ⟨rfl, h6⟩
        rw [show (!decide (nw < nw + 1 + du) || H == H) = true by simp]
        have E6 := Lib.hid (Ext.trans h5 h6)
        clear hc5 hf5 h5 h6
        go_wp2_with fail
        go_meet
        exact ⟨rfl, ext_blk E6.out b3.out, ext_blk E6.out b5.out, ext_blk E6.out b7.out, Lib.hid (Ext.trans E7.out E6.out)⟩
    case rest =>
    obtain ⟨rfl, hb3, hb5, hb7, hE7⟩ := hcut
    clear p0 p1 p2 x2 x3 q0 q1 q2 q3 q4 q5 q6 q7 q8 y2 y3 o0 o1 o2 z2 z3
    have b3' := Lib.hid hb3
    have b5' := Lib.hid hb5
    have b7' := Lib.hid hb7
    clear hb3 hb5 hb7 b3 b5 b7 E7
    obtain ⟨x1, x2, x3⟩ := blk_cells b3'.out
    have p0 := x1 0
    have p1 := x1 1
    have p2 := x1 2
    simp at p0 p1 p2
    clear x1
    obtain ⟨y1, y2, y3⟩ := blk_cells b5'.out
    have q0 := y1 0
    have q1 := y1 1
    have q2 := y1 2
    have q3 := y1 3
    have q4 := y1 4
    have q5 := y1 5
    have q6 := y1 6
    have q7 := y1 7
    have q8 := y1 8
    simp at q0 q1 q2 q3 q4 q5 q6 q7 q8
    clear y1
    obtain ⟨z1, z2, z3⟩ := blk_cells b7'.out
    have o0 := z1 0
    have o1 := z1 1
    have o2 := z1 2
    simp at o0 o1 o2
    clear z1
    go_upto_region 9 with fail
    go_cut [100] from 66 (fun v wx => v = .bool false ∧ wx.heap[g3]? = some (.cells #[.int .i64 u, .int .i64 o, .int .i64 r] 85 (0, 0)) ∧ wx.heap[g5]? = some (.cells #[.int .i64 kd, .int .i64 fm, .int .i64 ta, .int .i64 sq, .int .i64 fr, .bool mo, .bool re, .int .i64 du, .slice A n c] 66 (0, 0)) ∧ wx.heap[g7]? = some (.cells #[.int .i64 U, .int .i64 H, .int .i64 B] 85 (0, 0)) ∧ Hid (Ext w wx))
    case first =>
      cases hd with
      | true =>
        obtain ⟨e1, e2, e3⟩ := HU.out.2 rfl
        obtain ⟨y1', y2', y3', y4', y5', y6', y7'⟩ := hear_yes HH.out
        have hne : ¬ (U = u) := by omega
        clear e1 e2 e3 y2' y3'
        go_wp2_with fail
        go_meet
        exact ⟨rfl, b3'.out, b5'.out, b7'.out, hE7⟩
      | false =>
        obtain ⟨e1, e2, e3⟩ := HU.out.1 rfl
        subst e1 e2 e3
        have hN := Lib.hid (fun h1 h2 h3 h4 h5 => hear_no (u := U) (o := H) (r := B) HH.out h1 h2 h3 h4 h5)
        go_wp2_with fail
        refine (sResOk _ _ _ _).mono ?_
        rintro e w5 ⟨rfl, h5⟩
        obtain ⟨hc5, hf5⟩ := bcell h5
        cases k1 : resB U H B with
        | false =>
          go_wp2_with fail
          go_meet
          exact ⟨rfl, ext_blk h5 b3'.out, ext_blk h5 b5'.out, ext_blk h5 b7'.out, Lib.hid (Ext.trans hE7.out h5)⟩
        | true =>
        go_wp2_with fail
        refine (sFrOk _ _ _ _ _ _ _ _ _ _ _ _).mono ?_
        rintro e w6 ⟨rfl, h6⟩
        obtain ⟨hc6, hf6⟩ := bcell h6
        have E6 := Lib.hid (Ext.trans h5 h6)
        have c3 := Lib.hid (ext_blk E6.out b3'.out)
        have c5 := Lib.hid (ext_blk E6.out b5'.out)
        have c7 := Lib.hid (ext_blk E6.out b7'.out)
        clear hc6 hf6 hc5 hf5 h5 h6
        clear p0 p1 p2 x2 x3 q0 q1 q2 q3 q4 q5 q6 q7 q8 y2 y3 o0 o1 o2 z2 z3
        obtain ⟨x1, x2, x3⟩ := blk_cells c3.out
        have p0 := x1 0
        have p1 := x1 1
        have p2 := x1 2
        simp at p0 p1 p2
        clear x1
        obtain ⟨y1, y2, y3⟩ := blk_cells c5.out
        have q0 := y1 0
        have q1 := y1 1
        have q2 := y1 2
        have q3 := y1 3
        have q4 := y1 4
        have q5 := y1 5
        have q6 := y1 6
        have q7 := y1 7
        have q8 := y1 8
        simp at q0 q1 q2 q3 q4 q5 q6 q7 q8
        clear y1
        obtain ⟨z1, z2, z3⟩ := blk_cells c7.out
        have o0 := z1 0
        have o1 := z1 1
        have o2 := z1 2
        simp at o0 o1 o2
        clear z1
        cases k2 : frB kd fm ta sq fr du n with
        | false =>
          go_wp2_with fail
          go_meet
          exact ⟨rfl, ext_blk E6.out b3'.out, ext_blk E6.out b5'.out, ext_blk E6.out b7'.out, Lib.hid (Ext.trans hE7.out E6.out)⟩
        | true =>
        have hdu := (frB_du k2).1
        have w2' : IntKind.i64.wrap (nw + 1 + du) = nw + 1 + du := IntWalk.i64_in _ (by omega)
        cases k3 : (ta == s) with
        | true =>
          have k3' : ta = s := by simpa using k3
          have k3b : (ta != s) = false := by simp [k3']
          clear k3'
          go_wp2_with fail
          go_meet
          exact ⟨by simp [k3b], ext_blk E6.out b3'.out, ext_blk E6.out b5'.out, ext_blk E6.out b7'.out, Lib.hid (Ext.trans hE7.out E6.out)⟩
        | false =>
        have k3b : (ta != s) = true := by simp [bne, k3]
        have k3' : ta ≠ s := by simpa using k3
        have K3 := Lib.hid k3'
        clear k3'
        by_cases k4 : 0 ≤ nw
        · by_cases k5 : nw < 1000
          · have k6 := hN.out k1 k2 K3.out k4 k5
            go_wp2_with fail
            go_meet
            exact ⟨by simp [k3b]; try omega, ext_blk E6.out b3'.out, ext_blk E6.out b5'.out, ext_blk E6.out b7'.out, Lib.hid (Ext.trans hE7.out E6.out)⟩
          · go_wp2_with fail
            go_meet
            exact ⟨by simp [k3b]; try omega, ext_blk E6.out b3'.out, ext_blk E6.out b5'.out, ext_blk E6.out b7'.out, Lib.hid (Ext.trans hE7.out E6.out)⟩
        · go_wp2_with fail
          go_meet
          exact ⟨by simp [k3b]; try omega, ext_blk E6.out b3'.out, ext_blk E6.out b5'.out, ext_blk E6.out b7'.out, Lib.hid (Ext.trans hE7.out E6.out)⟩
    case rest =>
    obtain ⟨rfl, hb3, hb5, hb7, hE8⟩ := hcut
    clear p0 p1 p2 x2 x3 q0 q1 q2 q3 q4 q5 q6 q7 q8 y2 y3 o0 o1 o2 z2 z3
    have b3 := Lib.hid hb3
    have b5 := Lib.hid hb5
    have b7 := Lib.hid hb7
    clear hb3 hb5 hb7 b3' b5' b7' hE7
    obtain ⟨x1, x2, x3⟩ := blk_cells b3.out
    have p0 := x1 0
    have p1 := x1 1
    have p2 := x1 2
    simp at p0 p1 p2
    clear x1
    obtain ⟨y1, y2, y3⟩ := blk_cells b5.out
    have q0 := y1 0
    have q1 := y1 1
    have q2 := y1 2
    have q3 := y1 3
    have q4 := y1 4
    have q5 := y1 5
    have q6 := y1 6
    have q7 := y1 7
    have q8 := y1 8
    simp at q0 q1 q2 q3 q4 q5 q6 q7 q8
    clear y1
    obtain ⟨z1, z2, z3⟩ := blk_cells b7.out
    have o0 := z1 0
    have o1 := z1 1
    have o2 := z1 2
    simp at o0 o1 o2
    clear z1
    go_upto_region 11 with fail
    go_cut [111] from 101 (fun v wx => v = .bool false ∧ wx.heap[g3]? = some (.cells #[.int .i64 u, .int .i64 o, .int .i64 r] 85 (0, 0)) ∧ wx.heap[g5]? = some (.cells #[.int .i64 kd, .int .i64 fm, .int .i64 ta, .int .i64 sq, .int .i64 fr, .bool mo, .bool re, .int .i64 du, .slice A n c] 66 (0, 0)) ∧ wx.heap[g7]? = some (.cells #[.int .i64 U, .int .i64 H, .int .i64 B] 85 (0, 0)) ∧ Hid (Ext w wx))
    case first =>
      go_wp2_with fail
      refine (resvI _ _ _ _ _).mono ?_
      rintro e w5 ⟨rfl, h5⟩
      obtain ⟨hc5, hf5⟩ := bcell h5
      cases hlt : decide (nw < U) with
      | true =>
        go_wp2_with fail
        refine (iMay _ _ _ _ _ _).mono ?_
        rintro e w6 ⟨rfl, h6⟩
        rw [hlt, show (!true || H == H + 1) = false by simp; try omega]
        have E6 := Lib.hid (Ext.trans h5 h6)
        clear hc5 hf5 h5 h6
        go_wp2_with fail
        go_meet
        exact ⟨rfl, ext_blk E6.out b3.out, ext_blk E6.out b5.out, ext_blk E6.out b7.out, Lib.hid (Ext.trans hE8.out E6.out)⟩
      | false =>
        go_wp2_with fail
        go_meet
        exact ⟨rfl, ext_blk h5 b3.out, ext_blk h5 b5.out, ext_blk h5 b7.out, Lib.hid (Ext.trans hE8.out h5)⟩
    case rest =>
    obtain ⟨rfl, hb3, hb5, hb7, hE9⟩ := hcut
    clear p0 p1 p2 x2 x3 q0 q1 q2 q3 q4 q5 q6 q7 q8 y2 y3 o0 o1 o2 z2 z3
    have b3' := Lib.hid hb3
    have b5' := Lib.hid hb5
    have b7' := Lib.hid hb7
    clear hb3 hb5 hb7 b3 b5 b7 hE8 gU HU HH hnw
    obtain ⟨x1, x2, x3⟩ := blk_cells b3'.out
    have p0 := x1 0
    have p1 := x1 1
    have p2 := x1 2
    simp at p0 p1 p2
    clear x1
    obtain ⟨y1, y2, y3⟩ := blk_cells b5'.out
    have q0 := y1 0
    have q1 := y1 1
    have q2 := y1 2
    have q3 := y1 3
    have q4 := y1 4
    have q5 := y1 5
    have q6 := y1 6
    have q7 := y1 7
    have q8 := y1 8
    simp at q0 q1 q2 q3 q4 q5 q6 q7 q8
    clear y1
    obtain ⟨z1, z2, z3⟩ := blk_cells b7'.out
    have o0 := z1 0
    have o1 := z1 1
    have o2 := z1 2
    simp at o0 o1 o2
    clear z1
    have HRA := Lib.hid (show relV (decide (nw < U) && !true) U = U ∧ relV (decide (nw < U) && !true) H = H ∧ relV (decide (nw < U) && !true) B = B from ⟨by simp [relV], by simp [relV], by simp [relV]⟩)
    obtain ⟨U2, hU2⟩ : ∃ x, relV (decide (nw < U) && !false) U = x := ⟨_, rfl⟩
    obtain ⟨H2, hH2⟩ : ∃ x, relV (decide (nw < U) && !false) H = x := ⟨_, rfl⟩
    obtain ⟨B2, hB2⟩ : ∃ x, relV (decide (nw < U) && !false) B = x := ⟨_, rfl⟩
    have HRB := Lib.hid (And.intro hU2 (And.intro hH2 hB2))
    have HQ := Lib.hid (show decide (max 0 nw < U2) = false by rw [← hU2]; exact rel_res nw U)
    clear hU2 hH2 hB2
    go_wp2_with fail
    refine wp_region_chain 34 (by kernel_rfl) (by kernel_rfl) ?_
    simp only [List.take_succ_cons, List.take_zero, List.drop_succ_cons, List.drop_zero]
    repeat (first | (apply Chain.quiet; · (intro vs wq hEq hd; obtain ⟨hcq, hfq⟩ := bcell hEq; clear hEq hd; (try simp only [Act.put, SP.pick, SP.is, SP.box, id_eq, List.take_succ_cons, List.take_zero, List.drop_succ_cons, List.drop_zero, List.setIfInBounds_toArray, List.set_cons_zero, List.set_cons_succ]); refine growOp_go ?_; go_simp; first | exact ⟨Ext.refl _, rfl⟩ | exact rfl | (split; (exfalso; omega); (first | exact ⟨Ext.refl _, rfl⟩ | exact rfl)) | (split; (first | exact ⟨Ext.refl _, rfl⟩ | exact rfl); (exfalso; omega)))) | (apply Chain.quiet; · (intro vs wq hEq hd; obtain ⟨hcq, hfq⟩ := bcell hEq; have HE := Lib.hid hEq; clear hEq hd; (try simp only [Act.put, SP.pick, SP.is, SP.box, id_eq, List.take_succ_cons, List.take_zero, List.drop_succ_cons, List.drop_zero, List.setIfInBounds_toArray, List.set_cons_zero, List.set_cons_succ]); refine growOp_go ?_; go_simp; refine (iRel _ _ _ _ _ _).mono ?_; rintro e w5 ⟨rfl, hb⟩; rw [HRA.out.1, HRA.out.2.1, HRA.out.2.2]; first | exact ⟨rfl, hb⟩ | exact ⟨_, rfl, hb, rfl⟩)) | (apply Chain.quiet; · (intro vs wq hEq hd; obtain ⟨hcq, hfq⟩ := bcell hEq; have HE := Lib.hid hEq; clear hEq hd; (try simp only [Act.put, SP.pick, SP.is, SP.box, id_eq, List.take_succ_cons, List.take_zero, List.drop_succ_cons, List.drop_zero, List.setIfInBounds_toArray, List.set_cons_zero, List.set_cons_succ]); refine growOp_go ?_; go_simp; refine (iRel _ _ _ _ _ _).mono ?_; rintro e w5 ⟨rfl, hb⟩; rw [HRB.out.1, HRB.out.2.1, HRB.out.2.2]; first | exact ⟨rfl, hb⟩ | exact ⟨_, rfl, hb, rfl⟩)) | (apply Chain.quiet; · (intro vs wq hEq hd; obtain ⟨hcq, hfq⟩ := bcell hEq; have HE := Lib.hid hEq; clear hEq hd; (try simp only [Act.put, SP.pick, SP.is, SP.box, id_eq, List.take_succ_cons, List.take_zero, List.drop_succ_cons, List.drop_zero, List.setIfInBounds_toArray, List.set_cons_zero, List.set_cons_succ]); refine growOp_go ?_; go_simp; refine (resvI _ _ _ _ _).mono ?_; rintro e w5 ⟨rfl, hb⟩; rw [HQ.out]; first | exact ⟨rfl, hb⟩ | exact ⟨_, rfl, hb, rfl⟩)) | (apply Chain.quiet; · (intro vs wq hEq hd; obtain ⟨hcq, hfq⟩ := bcell hEq; clear hEq hd; (try simp only [Act.put, SP.pick, SP.is, SP.box, id_eq, List.take_succ_cons, List.take_zero, List.drop_succ_cons, List.drop_zero, List.setIfInBounds_toArray, List.set_cons_zero, List.set_cons_succ]); refine growOp_go ?_; go_simp; refine (sMax _ _ _).mono ?_; rintro e w5 ⟨rfl, rfl⟩; (try rw [cmb_max]); first | exact ⟨_, rfl, Ext.refl _, rfl⟩ | exact ⟨rfl, Ext.refl _⟩)) | (apply Chain.quiet; · (intro vs wq hEq hd; obtain ⟨hcq, hfq⟩ := bcell hEq; have HE := Lib.hid hEq; clear hEq hd; (try simp only [Act.put, SP.pick, SP.is, SP.box, id_eq, List.take_succ_cons, List.take_zero, List.drop_succ_cons, List.drop_zero, List.setIfInBounds_toArray, List.set_cons_zero, List.set_cons_succ]); refine growOp_go ?_; go_simp; refine (iComb _ _ _ _ _ _ _).mono ?_; rintro e w5 ⟨rfl, hb⟩; rw [cmb_max]; first | exact ⟨rfl, hb⟩ | exact ⟨_, rfl, hb, rfl⟩)) | (apply Chain.quiet; · (intro vs wq hEq hd; obtain ⟨hcq, hfq⟩ := bcell hEq; have HE := Lib.hid hEq; clear hEq hd; (try simp only [Act.put, SP.pick, SP.is, SP.box, id_eq, List.take_succ_cons, List.take_zero, List.drop_succ_cons, List.drop_zero, List.setIfInBounds_toArray, List.set_cons_zero, List.set_cons_succ]); refine growOp_go ?_; go_simp; refine (iReq _ _ _).mono ?_; rintro e w5 ⟨rfl, hb⟩; rw [req_c]; first | exact ⟨rfl, hb⟩ | exact ⟨_, rfl, hb, rfl⟩)) | (apply Chain.quiet; · (intro vs wq hEq hd; obtain ⟨hcq, hfq⟩ := bcell hEq; have HE := Lib.hid hEq; clear hEq hd; (try simp only [Act.put, SP.pick, SP.is, SP.box, id_eq, List.take_succ_cons, List.take_zero, List.drop_succ_cons, List.drop_zero, List.setIfInBounds_toArray, List.set_cons_zero, List.set_cons_succ]); refine growOp_go ?_; go_simp; refine (iSlots _ _ _).mono ?_; rintro e w5 ⟨rfl, hb⟩; rw [slots_c]; first | exact ⟨rfl, hb⟩ | exact ⟨_, rfl, hb, rfl⟩)) | (apply Chain.quiet; · (intro vs wq hEq hd; obtain ⟨hcq, hfq⟩ := bcell hEq; clear hEq hd; (try simp only [Act.put, SP.pick, SP.is, SP.box, id_eq, List.take_succ_cons, List.take_zero, List.drop_succ_cons, List.drop_zero, List.setIfInBounds_toArray, List.set_cons_zero, List.set_cons_succ]); refine growOp_go ?_; go_simp; refine (iGr 6 (by decide) _).mono ?_; rintro e w5 ⟨rfl, rfl⟩; (try rw [req_c]); first | exact ⟨_, rfl, Ext.refl _, rfl⟩ | exact ⟨rfl, Ext.refl _⟩)))
    refine Chain.done ?_
    intro vs w10 hE10 hd10
    simp only [Act.put, SP.pick, SP.is, SP.box, id_eq, List.take_succ_cons, List.take_zero, List.drop_succ_cons, List.drop_zero, List.setIfInBounds_toArray, List.set_cons_zero, List.set_cons_succ]
    clear hd10
    have E10 := Lib.hid (Ext.trans hE9.out hE10)
    go_wp2_with fail
    go_ret
    exact ⟨rfl, E10.out⟩
end Go.Proofs.Ytkmklafjcjkpdaa
