/- The law on equal transmit queues: its walk. -/
import Derived.Test.YtchhjidldppciaaG17
namespace Go.Proofs.Ytchhjidldppciaa
open Go.RowKit
set_option linter.unusedVariables false
set_option linter.unusedSimpArgs false
/-- A value that reads as a queue. -/
def SP.tq (n : Nat) (d : Int) (l : List Msg) : SP :=
  { p := fun v w => ∃ A c, v = .agg #[.slice A n c, .int .i64 d] ∧ Els w A 4 (kE kMsg) l
    st := fun v w w' hE ⟨A, c, h1, h2⟩ => ⟨A, c, h1, els_up h2 hE⟩ }
theorem walk_FnExactEqualQueues (a0 a1 : Array Value) (w : World) (r0 : Rd Try.prog w 46 (Value.agg a0).cells.toList) (r1 : Rd Try.prog w 46 (Value.agg a1).cells.toList) :
    Calls Try.prog 11 #[.agg a0, .agg a1] w fun e w' => e = .returned (.bool true) ∧ Below w.heap.size w w' := by
  obtain ⟨A, n, c, d, hcs, l, hn, hM, hm, hby⟩ := tq_rd r0
  obtain ⟨A', n', c', d', hcs', l', hn', hM', hm', hby'⟩ := tq_rd r1
  obtain ⟨cs⟩ := a0
  obtain ⟨cs'⟩ := a1
  simp only [Value.cells] at hcs hcs'
  subst hcs hcs'
  have E0 := Lib.hid (Ext.trans (Ext.alloc_ w (.cells #[.slice A n c, .int .i64 d] 46)) (Ext.alloc_ _ (.cells #[.slice A' n' c', .int .i64 d'] 46)))
  have b1 := Lib.hid (ext_blk (Ext.alloc_ _ (.cells #[.slice A' n' c', .int .i64 d'] 46)) (new_blk1 w #[.slice A n c, .int .i64 d] 46))
  have b2 := Lib.hid (new_blk2 w (.cells #[.slice A n c, .int .i64 d] 46) #[.slice A' n' c', .int .i64 d'] 46)
  have N1 := Lib.hid hn
  have N2 := Lib.hid hn'
  have M1 := Lib.hid (els_up hM E0.out)
  have M2 := Lib.hid (els_up hM' E0.out)
  have X1 := Lib.hid hm
  have X2 := Lib.hid hm'
  have B1 := Lib.hid hby
  have B2 := Lib.hid hby'
  have T1 := Lib.hid (tot_nonneg (K := kMsg) l)
  have T2 := Lib.hid (tot_nonneg (K := kMsg) l')
  obtain ⟨q, hq⟩ : ∃ q, (decide (d = d') && decide (l = l')) = q := ⟨_, rfl⟩
  have Q := Lib.hid hq
  clear r0 r1 hn hn' hM hM' hm hm' hby hby' hq
  by_cases hbig : (1048576 : Int) < (n : Int) + tot kMsg l
  · go_enter Try.func11, Try.ntmps11
    go_wp2_with fail
    refine (szTq_ _ _ _ _ _ l _ N1.out M1.out B1.out ⟨by omega, by omega⟩ X1.out).mono ?_
    rintro e w1 ⟨rfl, h1⟩
    rw [if_pos hbig]
    go_wp2_with fail
    go_ret
    exact ⟨rfl, Ext.trans E0.out h1⟩
  · have L1 := Lib.hid (show (n : Int) + tot kMsg l ≤ 1048576 by omega)
    by_cases hbig2 : (1048576 : Int) - (n + tot kMsg l) < (n' : Int) + tot kMsg l'
    · go_enter Try.func11, Try.ntmps11
      go_wp2_with fail
      refine (szTq_ _ _ _ _ _ l _ N1.out M1.out B1.out ⟨by omega, by omega⟩ X1.out).mono ?_
      rintro e w1 ⟨rfl, h1⟩
      rw [if_neg (by omega)]
      have h1' := Lib.hid h1
      obtain ⟨x1, x2, x3⟩ := blkE b2.out _ h1
      have hs2 : ¬ (1048576 - ((n : Int) + tot kMsg l) < 0) := by omega
      clear h1
      go_wp2_with fail
      refine (szTq_ _ _ _ _ _ l' _ N2.out (els_up M2.out h1'.out) B2.out ⟨by omega, by have := T1.out; omega⟩ X2.out).mono ?_
      rintro e w2 ⟨rfl, h2⟩
      rw [if_pos hbig2]
      clear hs2
      go_wp2_with fail
      go_ret
      exact ⟨rfl, Ext.trans E0.out (Ext.trans h1'.out h2)⟩
    · have L2 := Lib.hid (show (n' : Int) + tot kMsg l' ≤ 1048576 by have := T1.out; omega)
      have K1 := Lib.hid (show n ≤ 1048577 by have := L1.out; have := T1.out; omega)
      have K2 := Lib.hid (show n' ≤ 1048577 by have := L2.out; have := T2.out; omega)
      go_enter Try.func11, Try.ntmps11
      go_wp2_with fail
      refine (szTq_ _ _ _ _ _ l _ N1.out M1.out B1.out ⟨by omega, by omega⟩ X1.out).mono ?_
      rintro e w1 ⟨rfl, h1⟩
      rw [if_neg (by omega)]
      have h1' := Lib.hid h1
      obtain ⟨x1, x2, x3⟩ := blkE b2.out _ h1
      have hs2 : ¬ (1048576 - ((n : Int) + tot kMsg l) < 0) := by omega
      clear h1
      go_wp2_with fail
      refine (szTq_ _ _ _ _ _ l' _ N2.out (els_up M2.out h1'.out) B2.out ⟨by omega, by have := T1.out; omega⟩ X2.out).mono ?_
      rintro e w2 ⟨rfl, h2⟩
      rw [if_neg (by omega)]
      have hs3 : ¬ (1048576 - ((n : Int) + tot kMsg l) - ((n' : Int) + tot kMsg l') < 0) := by omega
      have E2 := Lib.hid (Ext.trans h1'.out h2)
      clear x1 x2 x3 h2 hs2 hbig hbig2
      obtain ⟨x1, x2, x3⟩ := blkE b1.out _ E2.out
      obtain ⟨y1, y2, y3⟩ := blkE b2.out _ E2.out
      go_wp2_with fail
      clear hs3
      refine wp_region_chain 6 (by kernel_rfl) (by kernel_rfl) ?_
      simp only [List.take_succ_cons, List.take_zero, List.drop_succ_cons, List.drop_zero]
      (apply Chain.quiet; · (intro vs wq hEq hd; obtain ⟨hcq, hfq⟩ := bcell hEq; clear hEq hd; (try simp only [Act.put, SP.pick, SP.is, SP.box, id_eq, List.take_succ_cons, List.take_zero, List.drop_succ_cons, List.drop_zero, List.setIfInBounds_toArray, List.set_cons_zero, List.set_cons_succ]); refine growOp_go ?_; go_simp; exact ⟨Ext.refl _, rfl⟩))
      refine Chain.sp (SP.tq n d l) ?_ ?_
      · intro vs wq hE hd
        clear hd
        (try simp only [Act.put, SP.pick, SP.is, SP.box, id_eq, List.take_succ_cons, List.take_zero, List.drop_succ_cons, List.drop_zero, List.setIfInBounds_toArray, List.set_cons_zero, List.set_cons_succ])
        refine growOp_go ?_
        go_simp
        refine (toTq_ _ _ _ _ _ l N1.out (els_up M1.out (Ext.trans E2.out hE)) L1.out).mono ?_
        rintro e w6 ⟨g6, rfl, hE6, hO6⟩
        exact ⟨_, rfl, hE6, _, _, rfl, hO6.els⟩
      (apply Chain.quiet; · (intro vs wq hEq hd; obtain ⟨hcq, hfq⟩ := bcell hEq; clear hEq hd; (try simp only [Act.put, SP.pick, SP.is, SP.box, id_eq, List.take_succ_cons, List.take_zero, List.drop_succ_cons, List.drop_zero, List.setIfInBounds_toArray, List.set_cons_zero, List.set_cons_succ]); refine growOp_go ?_; go_simp; exact ⟨Ext.refl _, rfl⟩))
      refine Chain.sp (SP.tq n' d' l') ?_ ?_
      · intro vs wq hE hd
        clear hd
        (try simp only [Act.put, SP.pick, SP.is, SP.box, id_eq, List.take_succ_cons, List.take_zero, List.drop_succ_cons, List.drop_zero, List.setIfInBounds_toArray, List.set_cons_zero, List.set_cons_succ])
        refine growOp_go ?_
        go_simp
        refine (toTq_ _ _ _ _ _ l' N2.out (els_up M2.out (Ext.trans E2.out hE)) L2.out).mono ?_
        rintro e w6 ⟨g6, rfl, hE6, hO6⟩
        exact ⟨_, rfl, hE6, _, _, rfl, hO6.els⟩
      apply Chain.quiet
      · intro vs wq hE hd
        obtain ⟨A7, c7, e7, Q7⟩ := hd 1 (by kernel_rfl)
        obtain ⟨A8, c8, e8, Q8⟩ := hd 3 (by kernel_rfl)
        clear hd
        simp only [Act.put, SP.pick, SP.is, SP.box, id_eq, List.take_succ_cons, List.take_zero, List.drop_succ_cons, List.drop_zero, List.setIfInBounds_toArray, List.set_cons_zero, List.set_cons_succ]
        rw [e7, e8]
        refine growOp_go ?_
        clear e7 e8
        go_simp
        refine (sEqQ _ _ _ _ _ _ _ _ _ l l' N1.out N2.out Q7 Q8 B1.out B2.out K1.out K2.out).mono ?_
        rintro e w7 ⟨rfl, hb7⟩
        rw [Q.out]
        first | exact ⟨rfl, hb7⟩ | exact ⟨_, rfl, hb7, rfl⟩
      (apply Chain.quiet; · (intro vs wq hEq hd; obtain ⟨hcq, hfq⟩ := bcell hEq; clear hEq hd; (try simp only [Act.put, SP.pick, SP.is, SP.box, id_eq, List.take_succ_cons, List.take_zero, List.drop_succ_cons, List.drop_zero, List.setIfInBounds_toArray, List.set_cons_zero, List.set_cons_succ]); refine growOp_go ?_; go_simp; exact ⟨Ext.refl _, rfl⟩))
      refine Chain.done ?_
      intro vs w3 hE3 hd3
      simp only [Act.put, SP.pick, SP.is, SP.box, id_eq, List.take_succ_cons, List.take_zero, List.drop_succ_cons, List.drop_zero, List.setIfInBounds_toArray, List.set_cons_zero, List.set_cons_succ]
      clear hd3
      have E3 := Lib.hid (Ext.trans E2.out hE3)
      clear hE3 x1 x2 x3 y1 y2 y3
      obtain ⟨x1, x2, x3⟩ := blkE b1.out _ E3.out
      go_wp2_with fail
      refine (toTq_ _ _ _ _ _ l N1.out (els_up M1.out E3.out) L1.out).mono ?_
      rintro e w4 ⟨G4, rfl, hE4, hO4⟩
      have E4 := Lib.hid (Ext.trans (Ext.trans E3.out hE4) (Ext.alloc_ _ (.cells #[.slice (some ⟨G4, 0, none⟩) n n, .int .i64 d] 51)))
      have M4 := Lib.hid (els_up hO4.els (Ext.alloc_ _ (.cells #[.slice (some ⟨G4, 0, none⟩) n n, .int .i64 d] 51)))
      have b4 := Lib.hid (new_blk1 w4 #[.slice (some ⟨G4, 0, none⟩) n n, .int .i64 d] 51)
      clear hE4 hO4 x1 x2 x3
      obtain ⟨y1, y2, y3⟩ := blkE b2.out _ E4.out
      go_wp2_with fail
      refine (toTq_ _ _ _ _ _ l' N2.out (els_up M2.out E4.out) L2.out).mono ?_
      rintro e w5 ⟨G5, rfl, hE5, hO5⟩
      have F5 := Lib.hid (Ext.trans hE5 (Ext.alloc_ _ (.cells #[.slice (some ⟨G5, 0, none⟩) n' n', .int .i64 d'] 51)))
      have M5 := Lib.hid (els_up hO5.els (Ext.alloc_ _ (.cells #[.slice (some ⟨G5, 0, none⟩) n' n', .int .i64 d'] 51)))
      have b5 := Lib.hid (new_blk1 w5 #[.slice (some ⟨G5, 0, none⟩) n' n', .int .i64 d'] 51)
      clear hE5 hO5 y1 y2 y3
      obtain ⟨x1, x2, x3⟩ := blkE b4.out _ F5.out
      obtain ⟨y1, y2, y3⟩ := blk_cells b5.out
      go_wp2_with fail
      refine (iEqQ _ _ _ _ _ _ _ _ _ l l' N1.out N2.out (els_up M4.out F5.out) M5.out B1.out B2.out K1.out K2.out).mono ?_
      rintro e w6 ⟨rfl, hE6⟩
      rw [Q.out]
      have H6 := Lib.hid hE6
      have F6 := Lib.hid (Ext.trans F5.out H6.out)
      have E6 := Lib.hid (Ext.trans E4.out F6.out)
      clear hE6 x1 x2 x3 y1 y2 y3
      obtain ⟨x1, x2, x3⟩ := blkE b4.out _ F6.out
      obtain ⟨y1, y2, y3⟩ := blkE b1.out _ E6.out
      go_wp2_with fail
      refine wp_region_chain 5 (by kernel_rfl) (by kernel_rfl) ?_
      simp only [List.take_succ_cons, List.take_zero, List.drop_succ_cons, List.drop_zero]
      repeat (apply Chain.quiet; · (intro vs wq hEq hd; obtain ⟨hcq, hfq⟩ := bcell hEq; clear hEq hd; (try simp only [Act.put, SP.pick, SP.is, SP.box, id_eq, List.take_succ_cons, List.take_zero, List.drop_succ_cons, List.drop_zero, List.setIfInBounds_toArray, List.set_cons_zero, List.set_cons_succ]); refine growOp_go ?_; go_simp; exact ⟨Ext.refl _, rfl⟩))
      refine Chain.sp (SP.tq n d l) ?_ ?_
      · intro vs wq hE hd
        clear hd
        (try simp only [Act.put, SP.pick, SP.is, SP.box, id_eq, List.take_succ_cons, List.take_zero, List.drop_succ_cons, List.drop_zero, List.setIfInBounds_toArray, List.set_cons_zero, List.set_cons_succ])
        refine growOp_go ?_
        go_simp
        refine (toTq_ _ _ _ _ _ l N1.out (els_up M1.out (Ext.trans E6.out hE)) L1.out).mono ?_
        rintro e w6 ⟨g6, rfl, hE6, hO6⟩
        exact ⟨_, rfl, hE6, _, _, rfl, hO6.els⟩
      apply Chain.quiet
      · intro vs wq hE hd
        obtain ⟨A7, c7, e7, Q7⟩ := hd 2 (by kernel_rfl)
        clear hd
        simp only [Act.put, SP.pick, SP.is, SP.box, id_eq, List.take_succ_cons, List.take_zero, List.drop_succ_cons, List.drop_zero, List.setIfInBounds_toArray, List.set_cons_zero, List.set_cons_succ]
        rw [e7]
        refine growOp_go ?_
        clear e7
        go_simp
        refine (eqTq_ _ _ _ _ _ _ _ l N1.out (els_up M4.out (Ext.trans F6.out hE)) Q7 (by have := L1.out; omega)).mono ?_
        rintro e w7 ⟨rfl, hb7⟩
        first | exact ⟨rfl, hb7⟩ | exact ⟨_, rfl, hb7, rfl⟩
      (apply Chain.quiet; · (intro vs wq hEq hd; obtain ⟨hcq, hfq⟩ := bcell hEq; clear hEq hd; (try simp only [Act.put, SP.pick, SP.is, SP.box, id_eq, List.take_succ_cons, List.take_zero, List.drop_succ_cons, List.drop_zero, List.setIfInBounds_toArray, List.set_cons_zero, List.set_cons_succ]); refine growOp_go ?_; go_simp; exact ⟨Ext.refl _, rfl⟩))
      refine Chain.done ?_
      intro vs w7 hE7 hd7
      simp only [Act.put, SP.pick, SP.is, SP.box, id_eq, List.take_succ_cons, List.take_zero, List.drop_succ_cons, List.drop_zero, List.setIfInBounds_toArray, List.set_cons_zero, List.set_cons_succ]
      clear hd7
      have E7 := Lib.hid (Ext.trans E6.out hE7)
      have F7 := Lib.hid (Ext.trans H6.out hE7)
      clear hE7 x1 x2 x3 y1 y2 y3
      obtain ⟨x1, x2, x3⟩ := blkE b5.out _ F7.out
      obtain ⟨y1, y2, y3⟩ := blkE b2.out _ E7.out
      go_wp2_with fail
      refine wp_region_chain 5 (by kernel_rfl) (by kernel_rfl) ?_
      simp only [List.take_succ_cons, List.take_zero, List.drop_succ_cons, List.drop_zero]
      repeat (apply Chain.quiet; · (intro vs wq hEq hd; obtain ⟨hcq, hfq⟩ := bcell hEq; clear hEq hd; (try simp only [Act.put, SP.pick, SP.is, SP.box, id_eq, List.take_succ_cons, List.take_zero, List.drop_succ_cons, List.drop_zero, List.setIfInBounds_toArray, List.set_cons_zero, List.set_cons_succ]); refine growOp_go ?_; go_simp; exact ⟨Ext.refl _, rfl⟩))
      refine Chain.sp (SP.tq n' d' l') ?_ ?_
      · intro vs wq hE hd
        clear hd
        (try simp only [Act.put, SP.pick, SP.is, SP.box, id_eq, List.take_succ_cons, List.take_zero, List.drop_succ_cons, List.drop_zero, List.setIfInBounds_toArray, List.set_cons_zero, List.set_cons_succ])
        refine growOp_go ?_
        go_simp
        refine (toTq_ _ _ _ _ _ l' N2.out (els_up M2.out (Ext.trans E7.out hE)) L2.out).mono ?_
        rintro e w6 ⟨g6, rfl, hE6, hO6⟩
        exact ⟨_, rfl, hE6, _, _, rfl, hO6.els⟩
      apply Chain.quiet
      · intro vs wq hE hd
        obtain ⟨A7, c7, e7, Q7⟩ := hd 2 (by kernel_rfl)
        clear hd
        simp only [Act.put, SP.pick, SP.is, SP.box, id_eq, List.take_succ_cons, List.take_zero, List.drop_succ_cons, List.drop_zero, List.setIfInBounds_toArray, List.set_cons_zero, List.set_cons_succ]
        rw [e7]
        refine growOp_go ?_
        clear e7
        go_simp
        refine (eqTq_ _ _ _ _ _ _ _ l' N2.out (els_up M5.out (Ext.trans F7.out hE)) Q7 (by have := L2.out; omega)).mono ?_
        rintro e w7 ⟨rfl, hb7⟩
        first | exact ⟨rfl, hb7⟩ | exact ⟨_, rfl, hb7, rfl⟩
      (apply Chain.quiet; · (intro vs wq hEq hd; obtain ⟨hcq, hfq⟩ := bcell hEq; clear hEq hd; (try simp only [Act.put, SP.pick, SP.is, SP.box, id_eq, List.take_succ_cons, List.take_zero, List.drop_succ_cons, List.drop_zero, List.setIfInBounds_toArray, List.set_cons_zero, List.set_cons_succ]); refine growOp_go ?_; go_simp; exact ⟨Ext.refl _, rfl⟩))
      refine Chain.done ?_
      intro vs w9 hE9 hd9
      simp only [Act.put, SP.pick, SP.is, SP.box, id_eq, List.take_succ_cons, List.take_zero, List.drop_succ_cons, List.drop_zero, List.setIfInBounds_toArray, List.set_cons_zero, List.set_cons_succ]
      clear hd9
      go_wp2_with fail
      go_ret
      exact ⟨rfl, Ext.trans E0.out (Ext.trans E7.out hE9)⟩
end Go.Proofs.Ytchhjidldppciaa
