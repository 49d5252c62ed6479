/- The law on duplicates. -/
import Derived.Test.YtkmklafjcjkpdaaSeP
import Derived.Test.YtkmklafjcjkpdaaDupL
import Derived.Test.YtkmklafjcjkpdaaLs
namespace Go.Proofs.Ytkmklafjcjkpdaa
open Go.RowKit
set_option linter.unusedVariables false
set_option linter.unusedSimpArgs false
set_option maxHeartbeats 1000000 in
theorem sDrawAcc (w : World) (A0 : Option Addr) (n0 c0 : Nat) (l0 : List Int) (hn : l0.length = n0) (hr : RB w A0 c0 l0) (hb : ∀ x ∈ l0, 0 ≤ x ∧ x ≤ 255) (hl : n0 ≤ 1048576) :
    Calls Try.prog 44 #[.slice A0 n0 c0] w fun e w' => ∃ (AL : Option Addr) (cL : Nat) (l : List Seen) (kd fm to sq fr : Int) (mo re : Bool) (du : Int) (A : Option Addr) (n c : Nat) (ca : Int), e = .returned (.tuple #[.slice AL l.length cL, .agg #[.int .i64 kd, .int .i64 fm, .int .i64 (to), .int .i64 sq, .int .i64 fr, .bool mo, .bool re, .int .i64 du, .slice A n c], .int .i64 ca]) ∧ l.length ≤ 100 ∧ FI sq ∧ Els w' AL 4 (kE kSeen) l ∧ Ext w w' := by
  have eR := Ext.alloc_ w (.cells #[.int .i64 0, .int .i64 0, .int .i64 0, .int .i64 0, .int .i64 0, .bool false, .bool false, .int .i64 0, .slice none 0 0] 66)
  have R1 := Lib.hid (hr.ext eR)
  have ER := Lib.hid eR
  have bR := Lib.hid (new_blk1 w #[.int .i64 0, .int .i64 0, .int .i64 0, .int .i64 0, .int .i64 0, .bool false, .bool false, .int .i64 0, .slice none 0 0] 66)
  clear eR hr
  go_enter Try.func44, Try.ntmps44
  go_wp2_with fail
  refine (sPair _ _ _ _ l0 hn R1.out hb hl).mono ?_
  rintro e w1 ⟨v, l, kd, fm, to, sq, fr, mo, re, du, A, n, c, ca, rfl, hll, hF, hO, hE⟩
  have HF := Lib.hid hF
  have HO := Lib.hid (own_base hO (B' := w.heap.size + 1) (by simp))
  obtain ⟨AL, cL, rfl, -, -, -⟩ := own_els hO
  have bR1 := Lib.hid (ext_blk hE bR.out)
  have E1 := Lib.hid (Ext.trans ER.out hE)
  clear hE hF hO hn hb R1 bR ER
  obtain ⟨N, hN⟩ : ∃ N, N = l.length := ⟨_, rfl⟩
  have HN := Lib.hid hN
  rw [← hN]
  clear hN
  obtain ⟨y1, y2, y3⟩ := blk_cells bR1.out
  have q0 := y1 0
  have q1 := y1 1
  have q2 := y1 2
  have q3 := y1 3
  have q4 := y1 4
  have q5 := y1 5
  have q6 := y1 6
  have q7 := y1 7
  have q8 := y1 8
  simp at q0 q1 q2 q3 q4 q5 q6 q7 q8
  clear y1
  go_wp2_with fail
  refine bodyPost_ret (v := .tuple #[.slice AL N cL, .agg #[.int .i64 kd, .int .i64 fm, .int .i64 (to), .int .i64 sq, .int .i64 fr, .bool mo, .bool re, .int .i64 du, .slice A n c], .int .i64 ca]) (by clear bR1 E1 HO HF HN; simp [results, Try.results44, go_sem, *]) rfl ⟨AL, cL, l, kd, fm, to, sq, fr, mo, re, du, A, n, c, ca, by rw [HN.out], hll, HF.out, ?_, ?_⟩
  · have key : ∀ w' : World, Chg w1 w' (fun y => y = w.heap.size) → Els w' AL 4 (kE kSeen) l := by
      intro w' hc
      obtain ⟨A', c', h1, -, -, h4⟩ := own_els (own_chg2 HO.out hc (fun y hy hlt hS => by omega))
      injection h1 with q1 q2 q3
      subst q1
      exact h4
    refine key _ ?_
    iterate 9 refine Chg.set ?_ (by simp) _
    exact Chg.refl _ _
  · iterate 9 refine Ext.setCell_ ?_ (by simp <;> omega) _
    exact E1.out
set_option maxRecDepth 8000 in
set_option maxHeartbeats 8000000 in
theorem walk_FnDuplicates (a0 : Option Addr) (n0 c0 : Nat) (w : World) (r0 : Rd Try.prog w 22 [.slice a0 n0 c0]) :
    Calls Try.prog 8 #[.slice a0 n0 c0] w fun e w' => e = .returned (.bool true) ∧ Below w.heap.size w w' := by
  obtain ⟨l0, hn, hr, hb, hm⟩ := view_code r0
  clear r0
  by_cases hbig : (1048576 : Int) < n0
  · go_enter Try.func8, Try.ntmps8
    go_wp2_with fail
    refine (big_ _ _ _ _ hm).mono ?_
    rintro e w' ⟨rfl, rfl⟩
    rw [decide_eq_true hbig]
    go_wp2_with fail
    go_ret
    exact ⟨rfl, Below.refl _ _⟩
  · go_enter Try.func8, Try.ntmps8
    go_wp2_with fail
    refine (big_ _ _ _ _ hm).mono ?_
    rintro e w' ⟨rfl, rfl⟩
    rw [decide_eq_false (by omega)]
    go_wp2_with fail
    refine (sDrawAcc _ _ _ _ l0 hn hr hb (by omega)).mono ?_
    rintro e w1 ⟨AL, cL, l, kd, fm, to, sq, fr, mo, re, du, A, n, c, ca, rfl, hll, hF, hEL, hE⟩
    have e2 := Ext.alloc_ w1 (.cells #[.int .i64 kd, .int .i64 fm, .int .i64 (to), .int .i64 sq, .int .i64 fr, .bool mo, .bool re, .int .i64 du, .slice A n c] 66)
    have b4 := Lib.hid (new_blk1 w1 #[.int .i64 kd, .int .i64 fm, .int .i64 (to), .int .i64 sq, .int .i64 fr, .bool mo, .bool re, .int .i64 du, .slice A n c] 66)
    have E2 := Lib.hid (Ext.trans hE e2)
    have L2 := Lib.hid (els_up hEL e2)
    have L1 := Lib.hid hEL
    have F2 := Lib.hid e2
    have hg4 : w.heap.size ≤ w1.heap.size := hE.size
    have HF := Lib.hid hF
    obtain ⟨N, hN⟩ : ∃ N, N = l.length := ⟨_, rfl⟩
    have HN := Lib.hid hN
    have hN100 : N ≤ 100 := by omega
    rw [← hN]
    clear hn hr hb hm hbig hE e2 hEL hF hN hll
    go_wp2_with fail
    generalize World.alloc w1 _ = w2 at *
    generalize hg14 : w1.heap.size = g4 at *
    refine (iAcc _ _ _ _ _ _ _ _ _ _ _ _ _ _ _ ca l HN.out.symm L2.out (by omega)).mono ?_
    rintro e w3 ⟨AX, cX, rfl, h3, hO3⟩
    obtain ⟨D, hD⟩ : ∃ D, dupB l fm sq fr re ca = D := ⟨_, rfl⟩
    obtain ⟨x, hx⟩ : ∃ x, accL l fm sq fr re ca = x := ⟨_, rfl⟩
    obtain ⟨NX, hNX⟩ : ∃ NX, NX = x.length := ⟨_, rfl⟩
    have hX1 : NX ≤ 101 := by have := accL_len l fm sq fr re ca; rw [hx] at this; have := HN.out; omega
    rw [hx, hD, ← hNX]
    rw [hx] at hO3
    have HD := Lib.hid hD
    have HX := Lib.hid hx
    have HNX := Lib.hid hNX
    have E3 := Lib.hid (Ext.trans E2.out h3)
    have F3 := Lib.hid (Ext.trans F2.out h3)
    have b43 := Lib.hid (ext_blk h3 b4.out)
    have L3 := Lib.hid (els_up L2.out h3)
    have O3 := Lib.hid hO3
    have hg42 : g4 < w2.heap.size := heap_lt b4.out
    clear h3 hO3 hD hx hNX E2 b4 L2
    obtain ⟨x1, x2, x3⟩ := blk_cells b43.out
    have p0 := x1 0
    have p1 := x1 1
    have p2 := x1 2
    have p3 := x1 3
    have p4 := x1 4
    have p5 := x1 5
    have p6 := x1 6
    have p7 := x1 7
    have p8 := x1 8
    simp at p0 p1 p2 p3 p4 p5 p6 p7 p8
    clear x1
    go_wp2_with fail
    refine (sDup _ AL N cL l kd fm to sq fr mo re du A n c ca HN.out.symm L3.out (by omega)).mono ?_
    rintro e w4 ⟨rfl, h4⟩
    rw [HD.out]
    have E4 := Lib.hid (Ext.trans E3.out h4)
    have F4 := Lib.hid (Ext.trans F3.out h4)
    have b44 := Lib.hid (ext_blk h4 b43.out)
    have L4 := Lib.hid (els_up L3.out h4)
    have O4 := Lib.hid (O3.out.chg (Chg.of_ext (fun _ => False) h4) (fun _ _ _ h => h))
    clear p0 p1 p2 p3 p4 p5 p6 p7 p8 x2 x3
    clear h4 E3 b43 L3
    obtain ⟨x1, x2, x3⟩ := blk_cells b44.out
    have p0 := x1 0
    have p1 := x1 1
    have p2 := x1 2
    have p3 := x1 3
    have p4 := x1 4
    have p5 := x1 5
    have p6 := x1 6
    have p7 := x1 7
    have p8 := x1 8
    simp at p0 p1 p2 p3 p4 p5 p6 p7 p8
    clear x1
    go_wp2_with fail
    refine (iDup _ AL N cL l kd fm to sq fr mo re du A n c ca HN.out.symm L4.out (by omega)).mono ?_
    rintro e w5 ⟨rfl, h5⟩
    rw [HD.out]
    have hdn : (D == !D) = false := by cases D <;> rfl
    have E5 := Lib.hid (Ext.trans E4.out h5)
    have F5 := Lib.hid (Ext.trans F4.out h5)
    have b45 := Lib.hid (ext_blk h5 b44.out)
    have L5 := Lib.hid (els_up L4.out h5)
    have O5 := Lib.hid (O4.out.chg (Chg.of_ext (fun _ => False) h5) (fun _ _ _ h => h))
    clear p0 p1 p2 p3 p4 p5 p6 p7 p8 x2 x3
    clear h5 E4 b44 L4 O3 O4
    obtain ⟨x1, x2, x3⟩ := blk_cells b45.out
    have p0 := x1 0
    have p1 := x1 1
    have p2 := x1 2
    have p3 := x1 3
    have p4 := x1 4
    have p5 := x1 5
    have p6 := x1 6
    have p7 := x1 7
    have p8 := x1 8
    simp at p0 p1 p2 p3 p4 p5 p6 p7 p8
    clear x1
    go_wp2_with fail
    have O5s := O5.out.chg (w' := w5.setCell ⟨g4, 6, none⟩ (.bool true)) (S := fun y => y = g4) (Chg.set (Chg.refl _ _) (by simp) _) (fun y h1 h2 h3 => by omega)
    have b45s := blk_set b45.out 6 (.bool true)
    simp only [List.setIfInBounds_toArray, List.set_cons_zero, List.set_cons_succ] at b45s
    have E5s := Ext.setCell_ (p := ⟨g4, 6, none⟩) E5.out hg4 (.bool true)
    have F5s := Ext.setCell_ (p := ⟨g4, 6, none⟩) F5.out (by rw [hg14]; exact Nat.le_refl _) (.bool true)
    have F5h := Lib.hid F5s
    have hx2 : accL x fm sq fr true ca = x := by rw [← HX.out]; exact acc_again l fm sq fr re ca
    have hd2 : dupB x fm sq fr true ca = true := by rw [← HX.out]; exact dup_again l fm sq fr re ca
    have hd3 : dupB x fm (sq + 1) fr true ca = false := by rw [← HX.out]; exact dup_next l fm sq fr re true ca
    have HX2 := Lib.hid hx2
    have HD2 := Lib.hid hd2
    have HD3 := Lib.hid hd3
    have O5h := Lib.hid O5s
    have b45h := Lib.hid b45s
    have E5h := Lib.hid E5s
    clear p0 p1 p2 p3 p4 p5 p6 p7 p8 x2 x3
    clear hx2 hd2 hd3 O5s b45s E5s F5s F5 b45 E5 O5 hdn
    generalize World.setCell w5 _ _ = w6 at *
    refine (iAcc _ kd fm to sq fr mo true du A AX n c NX cX ca x HNX.out.symm O5h.out.els (by omega)).mono ?_
    rintro e w7 ⟨AY, cY, rfl, h7, hO7⟩
    rw [HX2.out] at hO7
    rw [HX2.out, HD2.out, ← HNX.out]
    have E7 := Lib.hid (Ext.trans E5h.out h7)
    have F7 := Lib.hid (Ext.trans F5h.out h7)
    have b47 := Lib.hid (ext_blk h7 b45h.out)
    have X7 := Lib.hid (els_up O5h.out.els h7)
    have Y7 := Lib.hid hO7.els
    clear h7 hO7 O5h E5h b45h F5h
    have hsq : IntKind.i64.wrap (sq + 1) = sq + 1 := IntWalk.i64_in _ (by have h := HF.out; unfold FI at h; omega)
    obtain ⟨x1, x2, x3⟩ := blk_cells b47.out
    have p0 := x1 0
    have p1 := x1 1
    have p2 := x1 2
    have p3 := x1 3
    have p4 := x1 4
    have p5 := x1 5
    have p6 := x1 6
    have p7 := x1 7
    have p8 := x1 8
    simp at p0 p1 p2 p3 p4 p5 p6 p7 p8
    clear x1
    go_wp2_with fail
    have e8 := Ext.alloc_ w7 (.cells #[.int .i64 kd, .int .i64 fm, .int .i64 to, .int .i64 (sq + 1), .int .i64 fr, .bool mo, .bool true, .int .i64 du, .slice A n c] 66)
    refine (iAcc _ kd fm to (sq + 1) fr mo true du A AY n c NX cY ca x HNX.out.symm (els_up Y7.out e8) (by omega)).mono ?_
    rintro e w8 ⟨AZ, cZ, rfl, h8, hO8⟩
    rw [HD3.out]
    have E8 := Lib.hid (Ext.trans E7.out (Ext.trans e8 h8))
    have b48 := Lib.hid (ext_blk (Ext.trans e8 h8) b47.out)
    have X8 := Lib.hid (els_up X7.out (Ext.trans e8 h8))
    have L8 := Lib.hid (els_up L1.out (Ext.trans F7.out (Ext.trans e8 h8)))
    clear p0 p1 p2 p3 p4 p5 p6 p7 p8 x2 x3
    clear e8 h8 hO8 E7 b47 X7 Y7 F7 L1 L5
    generalize (accL x fm (sq + 1) fr true ca).length = NZ at *
    obtain ⟨x1, x2, x3⟩ := blk_cells b48.out
    have p0 := x1 0
    have p1 := x1 1
    have p2 := x1 2
    have p3 := x1 3
    have p4 := x1 4
    have p5 := x1 5
    have p6 := x1 6
    have p7 := x1 7
    have p8 := x1 8
    simp at p0 p1 p2 p3 p4 p5 p6 p7 p8
    clear x1
    go_wp2_with fail
    refine (sSeenOk _ _ _ _ l HN.out.symm L8.out (by omega)).mono ?_
    rintro e w9 ⟨rfl, h9⟩
    have E9 := Lib.hid (Ext.trans E8.out h9)
    have b49 := Lib.hid (ext_blk h9 b48.out)
    have X9 := Lib.hid (els_up X8.out h9)
    clear p0 p1 p2 p3 p4 p5 p6 p7 p8 x2 x3
    clear h9 E8 b48 X8 L8
    obtain ⟨x1, x2, x3⟩ := blk_cells b49.out
    have p0 := x1 0
    have p1 := x1 1
    have p2 := x1 2
    have p3 := x1 3
    have p4 := x1 4
    have p5 := x1 5
    have p6 := x1 6
    have p7 := x1 7
    have p8 := x1 8
    simp at p0 p1 p2 p3 p4 p5 p6 p7 p8
    clear x1
    cases hv : okSeen l with
    | false =>
      go_wp2_with fail
      go_ret
      exact ⟨rfl, E9.out⟩
    | true =>
    by_cases c1174 : fm < 0
    · go_wp2_with fail
      go_ret
      exact ⟨rfl, E9.out⟩
    by_cases c1264 : 16 ≤ fm
    · go_wp2_with fail
      go_ret
      exact ⟨rfl, E9.out⟩
    by_cases c1355 : ca < 0
    · go_wp2_with fail
      go_ret
      exact ⟨rfl, E9.out⟩
    by_cases c1445 : 3 < ca
    · go_wp2_with fail
      go_ret
      exact ⟨rfl, E9.out⟩
    by_cases c1535 : sq < 0
    · go_wp2_with fail
      go_ret
      exact ⟨rfl, E9.out⟩
    by_cases c1625 : 4095 < sq
    · go_wp2_with fail
      go_ret
      exact ⟨rfl, E9.out⟩
    by_cases c1718 : fr < 0
    · go_wp2_with fail
      go_ret
      exact ⟨rfl, E9.out⟩
    by_cases c1808 : 15 < fr
    · go_wp2_with fail
      go_ret
      exact ⟨rfl, E9.out⟩
    have hok : okSeen x = true := by
      rw [← HX.out]
      exact ok_acc hv (inB_mk (by omega) (by omega)) (inB_mk (by omega) (by omega)) (inB_mk (by omega) (by omega)) (inB_mk (by omega) (by omega))
    have HOK := Lib.hid hok
    clear hok
    go_wp2_with fail
    refine (iSeenOk _ _ _ _ x HNX.out.symm X9.out (by omega)).mono ?_
    rintro e w10 ⟨rfl, h10⟩
    rw [HOK.out]
    have E10 := Lib.hid (Ext.trans E9.out h10)
    clear h10
    go_wp2_with fail
    go_ret
    exact ⟨rfl, E10.out⟩
end Go.Proofs.Ytkmklafjcjkpdaa
