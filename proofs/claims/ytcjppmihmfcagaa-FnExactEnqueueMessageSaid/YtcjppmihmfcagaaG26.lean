/- The law on a message put into a queue. -/
import Derived.Test.YtcjppmihmfcagaaNb
import Derived.Test.YtcjppmihmfcagaaEnqI
namespace Go.Proofs.Ytcjppmihmfcagaa
open Go.RowKit
set_option linter.unusedVariables false
set_option linter.unusedSimpArgs false
/-- A block whose first cell holds a slice is none of a row's own. -/
theorem Own.set_box {w : World} {B C gb j : Nat} {A : Option Addr} {l : List Msg} {a : Option Addr} {b c : Nat} (h : Own kMsg w B C A l) (hb : w.cell? ⟨gb, 0, none⟩ = some (.slice a b c)) (u : Value) : Own kMsg (w.setCell ⟨gb, j, none⟩ u) B C A l := by
  rcases h with h | ⟨G, es, cs, T, h1, h2, h3, h4, h5, h6, h7⟩
  · exact .inl h
  · by_cases h0 : es = []
    · subst h0
      exact .inl (by simpa using h7.symm)
    · obtain ⟨e, es', rfl⟩ := List.exists_cons_of_ne_nil h0
      have hne : gb ≠ G := by
        intro h
        subst h
        have h8 := h5 0 (.int .i64 e.x.to) (by simp [rowOf, El.cells, kMsg])
        obtain ⟨q1, _, _⟩ := blk_cells h4
        rw [q1, h8] at hb
        cases hb
      refine .inr ⟨G, e :: es', cs, T, h1, h2, h3, by rw [Below.heap_setCell _ _ _ _ (by simpa using hne.symm)]; exact h4, h5, ⟨fun e' he' => (h6.1 e' he').keep fun h0 => ?_, h6.2⟩, h7⟩
      obtain ⟨_, _, q⟩ := h6.1 e' he'
      obtain ⟨_, _, _, _, cs', T', q5, q6⟩ := q.resolve_left h0
      refine Below.heap_setCell _ _ _ _ ?_
      intro h
      simp only at h
      rw [h] at q5
      have q7 : cs'[0]? = some (Value.int .u8 ((kMsg.bd e'.x).head h0)) := q6 0 _ (by rw [List.head_eq_getElem h0, List.getElem?_eq_getElem])
      obtain ⟨q1, _, _⟩ := blk_cells q5
      rw [q1, q7] at hb
      cases hb
theorem enqL_len (l : List Msg) (d : Int) (m : Msg) : ((enqL l d m).length : Int) + tot kMsg (enqL l d m) ≤ l.length + tot kMsg l + 1 + m.body.length ∧ (enqL l d m).length ≤ l.length + 1 := by
  have hs : ((l ++ [m]).length : Int) + tot kMsg (l ++ [m]) = l.length + tot kMsg l + 1 + m.body.length := by
    have : tot kMsg (l ++ [m]) = tot kMsg l + m.body.length := by
      induction l with
      | nil => simp [tot, kMsg]
      | cons x xs ih => simp [tot] at ih ⊢; omega
    rw [this]
    simp
    omega
  have h0 : ∀ L : List Msg, L.Sublist (l ++ [m]) → ((L.length : Int) + tot kMsg L ≤ l.length + tot kMsg l + 1 + m.body.length ∧ L.length ≤ l.length + 1) := fun L hL => by
    have h1 := tot_sub (K := kMsg) hL
    have h2 := hL.length_le
    simp at h2
    exact ⟨by omega, h2⟩
  unfold enqL
  split
  · split
    · exact h0 _ (List.Sublist.refl _)
    · exact h0 _ (List.eraseIdx_sublist _ _)
  · exact h0 _ (List.sublist_append_left _ _)
/-- A message copied; a queue that a function of the program returned. -/
def SP.msgN (t c d : Int) (l : List Int) : SP :=
  { p := fun v w => ∃ A cc, v = .agg #[.int .i64 t, .int .i64 c, .int .i64 d, .slice A l.length cc] ∧ RB w A cc l
    st := fun v w w' hE ⟨A, c, h1, h2⟩ => ⟨A, c, h1, h2.ext hE⟩ }
def SP.tqO (B n : Nat) (d : Int) (l : List Msg) : SP :=
  { p := fun v w => ∃ A c C, v = .agg #[.slice A n c, .int .i64 d] ∧ Own kMsg w B C A l ∧ C ≤ w.heap.size
    st := fun v w w' hE ⟨A, c, C, h1, h2, h3⟩ => ⟨A, c, C, h1, h2.ext hE, Nat.le_trans h3 hE.size⟩ }
set_option maxHeartbeats 4000000 in
theorem walk_FnExactEnqueueMessage (a0 a1 : Array Value) (w : World) (r0 : Rd Try.prog w 50 (Value.agg a0).cells.toList) (r1 : Rd Try.prog w 76 (Value.agg a1).cells.toList) :
    Calls Try.prog 10 #[.agg a0, .agg a1] w fun e w' => e = .returned (.bool true) ∧ Below w.heap.size w w' := by
  obtain ⟨A, n, c, d, hcs, l, hn, hM, hm, hby⟩ := tq_rd r0
  obtain ⟨m, ⟨Am, cm, hcm, hr⟩, hbm⟩ := msg_rd2 r1
  obtain ⟨cs⟩ := a0
  obtain ⟨cs1⟩ := a1
  simp only [Value.cells] at hcs hcm
  subst hcs
  simp only [kMsg] at hcm hr
  subst hcm
  have E0 := Lib.hid (Ext.trans (Ext.alloc_ w (.cells #[.slice A n c, .int .i64 d] 50)) (Ext.alloc_ _ (.cells #[.int .i64 m.to, .int .i64 m.cat, .int .i64 m.dl, .slice Am m.body.length cm] 76)))
  have b2 := Lib.hid (ext_blk (Ext.alloc_ _ (.cells #[.int .i64 m.to, .int .i64 m.cat, .int .i64 m.dl, .slice Am m.body.length cm] 76)) (new_blk1 w #[.slice A n c, .int .i64 d] 50))
  have b3 := Lib.hid (new_blk2 w (.cells #[.slice A n c, .int .i64 d] 50) #[.int .i64 m.to, .int .i64 m.cat, .int .i64 m.dl, .slice Am m.body.length cm] 76)
  have N1 := Lib.hid hn
  have M1 := Lib.hid (els_up hM E0.out)
  have R1 := Lib.hid (hr.ext E0.out)
  have X1 := Lib.hid hm
  have X2 := Lib.hid hbm.1
  have B1 := Lib.hid hby
  have T1 := Lib.hid (tot_nonneg (K := kMsg) l)
  clear r0 r1 hn hM hm hby hr hbm
  by_cases hbig : (1048576 : Int) < (n : Int) + tot kMsg l
  · go_enter Try.func10, Try.ntmps10
    go_wp2_with fail
    refine (szTq_ _ _ _ _ _ l _ N1.out M1.out B1.out ⟨by omega, by omega⟩ X1.out).mono ?_
    rintro e w1 ⟨rfl, h1⟩
    rw [if_pos hbig]
    go_wp2_with fail
    go_ret
    exact ⟨rfl, Ext.trans E0.out h1⟩
  · by_cases hbig2 : (1048576 : Int) - ((n : Int) + tot kMsg l) < (m.body.length : Int)
    · go_enter Try.func10, Try.ntmps10
      go_wp2_with fail
      refine (szTq_ _ _ _ _ _ l _ N1.out M1.out B1.out ⟨by omega, by omega⟩ X1.out).mono ?_
      rintro e w1 ⟨rfl, h1⟩
      rw [if_neg (by omega)]
      have hs2 : ¬ (1048576 - ((n : Int) + tot kMsg l) < 0) := by omega
      obtain ⟨x1, x2, x3⟩ := blkE b3.out _ h1
      go_wp2_with fail
      refine (szMsg_ _ _ _ _ _ _ _ _ ⟨by omega, by have := T1.out; omega⟩ X2.out).mono ?_
      rintro e w2 ⟨rfl, h2⟩
      rw [if_pos hbig2]
      clear hs2
      go_wp2_with fail
      go_ret
      exact ⟨rfl, Ext.trans E0.out (Ext.trans h1 h2)⟩
    · have L1 := Lib.hid (show (n : Int) + tot kMsg l ≤ 1048576 by omega)
      have L2 := Lib.hid (show m.body.length ≤ 1048576 by have := T1.out; omega)
      have K1 := Lib.hid (show n ≤ 1048576 by have := L1.out; have := T1.out; omega)
      have D1 : Hid (∀ m ∈ l, m.body.length ≤ 1048576) := fun m hm => by
        obtain ⟨i, hi, rfl⟩ := List.getElem_of_mem hm
        have h1 := tot_one_le (K := kMsg) l i hi
        rw [kMsg_bd] at h1
        have := L1.out
        omega
      obtain ⟨L, hL⟩ : ∃ L, L = enqL l d m := ⟨_, rfl⟩
      obtain ⟨D, hD⟩ : ∃ D, D = enqD l d m := ⟨_, rfl⟩
      have hL' := Lib.hid hL
      have hD' := Lib.hid hD
      have S1 := Lib.hid (show (L.length : Int) + tot kMsg L ≤ 1048577 ∧ ((sumC cMsg L : Nat) : Int) ≤ 4194308 ∧ ((sumC cMsg l : Nat) : Int) ≤ 4194304 by
        have h1 := (enqL_len l d m).1
        rw [← hL] at h1
        have h2 := sumC_msg L
        have h3 := sumC_msg l
        have h4 := tot_nonneg (K := kMsg) L
        have h5 := tot_nonneg (K := kMsg) l
        have h6 := L1.out
        have h7 := N1.out
        refine ⟨by omega, by omega, by omega⟩)
      clear hL hD
      have hnl : ¬ (1 + ((sumC cMsg l : Nat) : Int) + (m.body.length : Int) < 0) := by omega
      have hnL : ¬ (1 + ((sumC cMsg L : Nat) : Int) < 0) := by omega
      go_enter Try.func10, Try.ntmps10
      go_wp2_with fail
      refine (szTq_ _ _ _ _ _ l _ N1.out M1.out B1.out ⟨by omega, by omega⟩ X1.out).mono ?_
      rintro e w1 ⟨rfl, h1⟩
      rw [if_neg (by omega)]
      have hs2 : ¬ (1048576 - ((n : Int) + tot kMsg l) < 0) := by omega
      obtain ⟨x1, x2, x3⟩ := blkE b3.out _ h1
      go_wp2_with fail
      refine (szMsg_ _ _ _ _ _ _ _ _ ⟨by omega, by have := T1.out; omega⟩ X2.out).mono ?_
      rintro e w2 ⟨rfl, h2⟩
      rw [if_neg (by omega)]
      have hs3 : ¬ (1048576 - ((n : Int) + tot kMsg l) - (m.body.length : Int) < 0) := by omega
      have E2 := Lib.hid (Ext.trans h1 h2)
      clear h1 h2 hs2 x1 x2 x3
      obtain ⟨x1, x2, x3⟩ := blkE b2.out _ E2.out
      obtain ⟨y1, y2, y3⟩ := blkE b3.out _ E2.out
      go_wp2_with fail
      clear hs3 hbig hbig2
      refine wp_region_chain 6 (by kernel_rfl) (by kernel_rfl) ?_
      simp only [List.take_succ_cons, List.take_zero, List.drop_succ_cons, List.drop_zero]
      (apply Chain.quiet; · (intro vs wq hEq hd; obtain ⟨hcq, hfq⟩ := bcell hEq; clear hEq hd; (try simp only [Act.put, SP.pick, SP.is, SP.box, id_eq, List.take_succ_cons, List.take_zero, List.drop_succ_cons, List.drop_zero, List.setIfInBounds_toArray, List.set_cons_zero, List.set_cons_succ]); refine growOp_go ?_; go_simp; exact ⟨Ext.refl _, rfl⟩))
      refine Chain.sp (SP.tqL n d l) ?_ ?_
      · intro vs wq hE hd
        clear hd
        (try simp only [Act.put, SP.pick, SP.is, SP.box, id_eq, List.take_succ_cons, List.take_zero, List.drop_succ_cons, List.drop_zero, List.setIfInBounds_toArray, List.set_cons_zero, List.set_cons_succ])
        refine growOp_go ?_
        go_simp
        refine (toTq_ _ _ _ _ _ l N1.out (els_up M1.out (Ext.trans E2.out hE)) L1.out).mono ?_
        rintro e w6 ⟨g6, rfl, hE6, hO6⟩
        exact ⟨_, rfl, hE6, _, _, rfl, hO6.els⟩
      (apply Chain.quiet; · (intro vs wq hEq hd; obtain ⟨hcq, hfq⟩ := bcell hEq; clear hEq hd; (try simp only [Act.put, SP.pick, SP.is, SP.box, id_eq, List.take_succ_cons, List.take_zero, List.drop_succ_cons, List.drop_zero, List.setIfInBounds_toArray, List.set_cons_zero, List.set_cons_succ]); refine growOp_go ?_; go_simp; exact ⟨Ext.refl _, rfl⟩))
      refine Chain.sp (SP.msgN m.to m.cat m.dl m.body) ?_ ?_
      · intro vs wq hE hd
        clear hd
        (try simp only [Act.put, SP.pick, SP.is, SP.box, id_eq, List.take_succ_cons, List.take_zero, List.drop_succ_cons, List.drop_zero, List.setIfInBounds_toArray, List.set_cons_zero, List.set_cons_succ])
        refine growOp_go ?_
        go_simp
        refine (toMsg_ _ _ _ _ _ _ _ m.body rfl (R1.out.ext (Ext.trans E2.out hE)) L2.out).mono ?_
        rintro e w6 ⟨g6, rfl, hE6, hg6, hO6⟩
        exact ⟨_, rfl, hE6, _, _, rfl, (NewB.of_blk (l := m.body) hg6 hO6).rb⟩
      refine Chain.sp (SP.tqO w2.heap.size L.length D L) ?_ ?_
      · intro vs wq hE hd
        obtain ⟨A7, c7, e7, Q7⟩ := hd 1 (by kernel_rfl)
        obtain ⟨A8, c8, e8, Q8⟩ := hd 3 (by kernel_rfl)
        have Q7' := Lib.hid Q7
        have Q8' := Lib.hid Q8
        have hz := Lib.hid hE.size
        clear hd Q7 Q8
        simp only [Act.put, SP.pick, SP.is, SP.box, id_eq, List.take_succ_cons, List.take_zero, List.drop_succ_cons, List.drop_zero, List.setIfInBounds_toArray, List.set_cons_zero, List.set_cons_succ]
        rw [e7, e8]
        refine growOp_go ?_
        clear e7 e8
        go_simp
        refine (sEnq _ _ _ _ _ l m _ _ N1.out Q7'.out D1.out K1.out Q8'.out L2.out).mono ?_
        rintro e w6 ⟨A6, c6, rfl, hE6, hO6⟩
        rw [← hL'.out] at hO6
        refine ⟨_, rfl, hE6, A6, c6, w6.heap.size, by rw [hL'.out, hD'.out], hO6.mono hz.out (Nat.le_refl _), Nat.le_refl _⟩
      refine Chain.sp (SP.box w2.heap.size #[.slice none 0 0, .int .i64 0] 54) ?_ ?_
      · intro vs wq hEq hd
        have hz := hEq.size
        clear hd
        (try simp only [Act.put, SP.pick, SP.is, SP.box, id_eq, List.take_succ_cons, List.take_zero, List.drop_succ_cons, List.drop_zero, List.setIfInBounds_toArray, List.set_cons_zero, List.set_cons_succ])
        refine growOp_go ?_
        go_simp
        exact ⟨Ext.alloc_ _ _, (Array.getElem?_eq_some_iff.1 (new_blk1 wq _ _)).2⟩
      refine Chain.done ?_
      intro vs w3 hE3 hd3
      simp only [Act.put, SP.pick, SP.is, SP.box, id_eq, List.take_succ_cons, List.take_zero, List.drop_succ_cons, List.drop_zero, List.setIfInBounds_toArray, List.set_cons_zero, List.set_cons_succ]
      obtain ⟨Aw, cw, C3, e3, O3, Z3⟩ := hd3 4
      obtain ⟨gb, eb, hgb, bb⟩ := hd3 5
      rw [e3, eb]
      simp only [SP.tqO, SP.box, id_eq]
      clear hd3 e3 eb x1 x2 x3 y1 y2 y3
      obtain ⟨q1, q2, q3⟩ := blk_cells bb
      have z2 : w.heap.size + 1 + 1 ≤ w2.heap.size := by have := E2.out.size; simpa using this
      have H3 := Lib.hid (Ext.trans E2.out hE3)
      have E3 := Lib.hid ((H3.out.setCell_ (p := ⟨gb, 0, none⟩) (by simp; omega) (.slice Aw L.length cw)).setCell_ (p := ⟨gb, 1, none⟩) (by simp; omega) (.int .i64 D))
      have W3 := Lib.hid (Own.set_box (j := 1) (Own.set_box (j := 0) O3 (by rw [q1]; rfl) (.slice Aw L.length cw)) (by have := (blk_cells (blk_set bb 0 (.slice Aw L.length cw))).1 0; simpa using this) (.int .i64 D))
      have b6 := Lib.hid (show ((w3.setCell ⟨gb, 0, none⟩ (.slice Aw L.length cw)).setCell ⟨gb, 1, none⟩ (.int .i64 D)).heap[gb]? = some (.cells #[.slice Aw L.length cw, .int .i64 D] 54 (0, 0)) from blk_set (blk_set bb 0 _) 1 _)
      have z3 := Lib.hid (show w.heap.size + 1 + 1 ≤ w2.heap.size ∧ w2.heap.size ≤ w3.heap.size ∧ C3 ≤ w3.heap.size ∧ w2.heap.size ≤ gb ∧ gb < w3.heap.size from ⟨z2, hE3.size, Z3, hgb, q3⟩)
      have c0 := q1 0
      have c1 := q1 1
      simp at c0 c1
      obtain ⟨x1, x2, x3⟩ := blk_cells (ext_blk H3.out b2.out)
      have d0 := x1 0
      have d1 := x1 1
      simp at d0 d1
      clear hE3 O3 Z3 bb q1 H3 x1
      go_wp2_with fail
      generalize hW3 : (w3.setCell ⟨gb, 0, none⟩ (.slice Aw L.length cw)).setCell ⟨gb, 1, none⟩ (.int .i64 D) = V3 at *
      have zW3 := Lib.hid (show V3.heap.size = w3.heap.size by rw [← hW3]; simp)
      clear hW3 c0 c1 d0 d1 x2 x3 q2 q3
      refine (toTq_ _ _ _ _ _ l N1.out (els_up M1.out E3.out) L1.out).mono ?_
      rintro e w4 ⟨G4, rfl, h4, hO4⟩
      have e4 := Ext.alloc_ w4 (.cells #[.slice (some ⟨G4, 0, none⟩) n n, .int .i64 d] 54)
      have F4 := Lib.hid (Ext.trans h4 e4)
      have E4 := Lib.hid (Ext.trans E3.out F4.out)
      have O4 := Lib.hid (hO4.ext e4)
      have b7 := Lib.hid (new_blk1 w4 #[.slice (some ⟨G4, 0, none⟩) n n, .int .i64 d] 54)
      have z4 := Lib.hid (show w3.heap.size ≤ w4.heap.size by have := h4.size; have := zW3.out; omega)
      clear h4 hO4 e4
      obtain ⟨x1, x2, x3⟩ := blkE b3.out _ E4.out
      go_wp2_with fail
      refine (toMsg_ _ _ _ _ _ _ _ m.body rfl (R1.out.ext E4.out) L2.out).mono ?_
      rintro e w5 ⟨G5, rfl, h5, hG5, hO5⟩
      have e5 := Ext.alloc_ w5 (.cells #[.int .i64 m.to, .int .i64 m.cat, .int .i64 m.dl, .slice (some ⟨G5, 0, none⟩) m.body.length m.body.length] 71)
      have F5 := Lib.hid (Ext.trans h5 e5)
      have E5 := Lib.hid (Ext.trans E4.out F5.out)
      have hO5' := (NewB.of_blk (l := m.body) hG5 hO5)
      have O5 := Lib.hid (hO5'.ext e5)
      have L5 := Lib.hid (hO5'.lt)
      have b8 := Lib.hid (new_blk1 w5 #[.int .i64 m.to, .int .i64 m.cat, .int .i64 m.dl, .slice (some ⟨G5, 0, none⟩) m.body.length m.body.length] 71)
      have z5 := Lib.hid (show w4.heap.size + 1 ≤ w5.heap.size ∧ w4.heap.size + 1 ≤ G5 by have := h5.size; simp at this hG5; omega)
      clear h5 hO5 e5 x1 x2 x3 hO5' hG5
      obtain ⟨x1, x2, x3⟩ := blk_cells b8.out
      obtain ⟨y1, y2, y3⟩ := blkE b7.out _ F5.out
      go_wp2_with fail
      refine (iEnq _ _ _ _ _ l m _ _ N1.out (els_up O4.out.els F5.out) D1.out K1.out O5.out.rb L2.out).mono ?_
      rintro e w6 ⟨Ag, cg, rfl, h6, hO6⟩
      rw [← hL'.out, ← hD'.out]
      rw [← hL'.out] at hO6
      have e6 := Ext.alloc_ w6 (.cells #[.slice Ag L.length cg, .int .i64 D] 54)
      have F6 := Lib.hid (Ext.trans h6 e6)
      have E6 := Lib.hid (Ext.trans E5.out F6.out)
      have O6 := Lib.hid (hO6.ext e6)
      have b9 := Lib.hid (new_blk1 w6 #[.slice Ag L.length cg, .int .i64 D] 54)
      have z6 := Lib.hid (show w5.heap.size + 1 ≤ w6.heap.size by have := h6.size; simpa using this)
      simp only [World.size_alloc] at O6
      clear h6 hO6 e6 x1 x2 x3 y1 y2 y3
      have P3 := Lib.hid (W3.out.ext (Ext.trans F4.out (Ext.trans F5.out F6.out)))
      have P4 := Lib.hid (O4.out.ext (Ext.trans F5.out F6.out))
      have P5 := Lib.hid (O5.out.ext F6.out)
      have p2 := Lib.hid (ext_blk E6.out b2.out)
      have p3 := Lib.hid (ext_blk E6.out b3.out)
      have p6 := Lib.hid (ext_blk (Ext.trans F4.out (Ext.trans F5.out F6.out)) b6.out)
      have p7 := Lib.hid (ext_blk (Ext.trans F5.out F6.out) b7.out)
      have p8 := Lib.hid (ext_blk F6.out b8.out)
      clear W3 O4 O5 b6 b7 b8 E2 E3 E4 E5 F4 F5 F6
      obtain ⟨x1, x2, x3⟩ := blk_cells b9.out
      obtain ⟨y1, y2, y3⟩ := blk_cells p6.out
      go_wp2_with fail
      generalize hW6 : w6.alloc (.cells #[.slice Ag L.length cg, .int .i64 D] 54) = W6 at *
      have zW := Lib.hid (show W6.heap.size = w6.heap.size + 1 by rw [← hW6]; simp)
      clear hW6
      refine (eqTq_ _ _ _ _ _ _ _ L rfl O6.out.els P3.out.els S1.out.1).mono ?_
      rintro e w7 ⟨rfl, h7⟩
      have Q7 := Lib.hid h7
      clear h7 x1 x2 x3 y1 y2 y3
      obtain ⟨x1, x2, x3⟩ := blkE p7.out _ Q7.out
      obtain ⟨y1, y2, y3⟩ := blkE p2.out _ Q7.out
      go_wp2_with fail
      refine wp_region_chain 5 (by kernel_rfl) (by kernel_rfl) ?_
      simp only [List.take_succ_cons, List.take_zero, List.drop_succ_cons, List.drop_zero]
      repeat (apply Chain.quiet; · (intro vs wq hEq hd; obtain ⟨hcq, hfq⟩ := bcell hEq; clear hEq hd; (try simp only [Act.put, SP.pick, SP.is, SP.box, id_eq, List.take_succ_cons, List.take_zero, List.drop_succ_cons, List.drop_zero, List.setIfInBounds_toArray, List.set_cons_zero, List.set_cons_succ]); refine growOp_go ?_; go_simp; exact ⟨Ext.refl _, rfl⟩))
      refine Chain.sp (SP.tqL n d l) ?_ ?_
      · intro vs wq hE hd
        clear hd
        (try simp only [Act.put, SP.pick, SP.is, SP.box, id_eq, List.take_succ_cons, List.take_zero, List.drop_succ_cons, List.drop_zero, List.setIfInBounds_toArray, List.set_cons_zero, List.set_cons_succ])
        refine growOp_go ?_
        go_simp
        refine (toTq_ _ _ _ _ _ l N1.out (els_up M1.out (Ext.trans E6.out (Ext.trans Q7.out hE))) L1.out).mono ?_
        rintro e w6 ⟨g6, rfl, hE6, hO6⟩
        exact ⟨_, rfl, hE6, _, _, rfl, hO6.els⟩
      apply Chain.quiet
      · intro vs wq hE hd
        obtain ⟨A7, c7, e7, Q8⟩ := hd 2 (by kernel_rfl)
        clear hd
        simp only [Act.put, SP.pick, SP.is, SP.box, id_eq, List.take_succ_cons, List.take_zero, List.drop_succ_cons, List.drop_zero, List.setIfInBounds_toArray, List.set_cons_zero, List.set_cons_succ]
        rw [e7]
        refine growOp_go ?_
        clear e7
        go_simp
        refine (eqTq_ _ _ _ _ _ _ _ l N1.out (els_up P4.out.els (Ext.trans Q7.out hE)) Q8 (by have := L1.out; omega)).mono ?_
        rintro e w7 ⟨rfl, hb7⟩
        first | exact ⟨rfl, hb7⟩ | exact ⟨_, rfl, hb7, rfl⟩
      (apply Chain.quiet; · (intro vs wq hEq hd; obtain ⟨hcq, hfq⟩ := bcell hEq; clear hEq hd; (try simp only [Act.put, SP.pick, SP.is, SP.box, id_eq, List.take_succ_cons, List.take_zero, List.drop_succ_cons, List.drop_zero, List.setIfInBounds_toArray, List.set_cons_zero, List.set_cons_succ]); refine growOp_go ?_; go_simp; exact ⟨Ext.refl _, rfl⟩))
      refine Chain.done ?_
      intro vs w8 hE8 hd8
      simp only [Act.put, SP.pick, SP.is, SP.box, id_eq, List.take_succ_cons, List.take_zero, List.drop_succ_cons, List.drop_zero, List.setIfInBounds_toArray, List.set_cons_zero, List.set_cons_succ]
      have Q8 := Lib.hid (Ext.trans Q7.out hE8)
      clear hd8 hE8 Q7 x1 x2 x3 y1 y2 y3
      obtain ⟨x1, x2, x3⟩ := blkE p8.out _ Q8.out
      obtain ⟨y1, y2, y3⟩ := blkE p3.out _ Q8.out
      go_wp2_with fail
      refine wp_region_chain 5 (by kernel_rfl) (by kernel_rfl) ?_
      simp only [List.take_succ_cons, List.take_zero, List.drop_succ_cons, List.drop_zero]
      repeat (apply Chain.quiet; · (intro vs wq hEq hd; obtain ⟨hcq, hfq⟩ := bcell hEq; clear hEq hd; (try simp only [Act.put, SP.pick, SP.is, SP.box, id_eq, List.take_succ_cons, List.take_zero, List.drop_succ_cons, List.drop_zero, List.setIfInBounds_toArray, List.set_cons_zero, List.set_cons_succ]); refine growOp_go ?_; go_simp; exact ⟨Ext.refl _, rfl⟩))
      refine Chain.sp (SP.msgN m.to m.cat m.dl m.body) ?_ ?_
      · intro vs wq hE hd
        clear hd
        (try simp only [Act.put, SP.pick, SP.is, SP.box, id_eq, List.take_succ_cons, List.take_zero, List.drop_succ_cons, List.drop_zero, List.setIfInBounds_toArray, List.set_cons_zero, List.set_cons_succ])
        refine growOp_go ?_
        go_simp
        refine (toMsg_ _ _ _ _ _ _ _ m.body rfl (R1.out.ext (Ext.trans E6.out (Ext.trans Q8.out hE))) L2.out).mono ?_
        rintro e w6 ⟨g6, rfl, hE6, hg6, hO6⟩
        exact ⟨_, rfl, hE6, _, _, rfl, (NewB.of_blk (l := m.body) hg6 hO6).rb⟩
      apply Chain.quiet
      · intro vs wq hE hd
        obtain ⟨A7, c7, e7, Q9⟩ := hd 2 (by kernel_rfl)
        have Q9' := Lib.hid Q9
        clear hd Q9
        simp only [Act.put, SP.pick, SP.is, SP.box, id_eq, List.take_succ_cons, List.take_zero, List.drop_succ_cons, List.drop_zero, List.setIfInBounds_toArray, List.set_cons_zero, List.set_cons_succ]
        rw [e7]
        refine growOp_go ?_
        clear e7
        go_simp
        refine (eqMsg_ _ _ _ _ _ _ _ _ _ m.body rfl (P5.out.rb.ext (Ext.trans Q8.out hE)) Q9'.out L2.out).mono ?_
        rintro e w7 ⟨rfl, hb7⟩
        first | exact ⟨rfl, hb7⟩ | exact ⟨_, rfl, hb7, rfl⟩
      (apply Chain.quiet; · (intro vs wq hEq hd; obtain ⟨hcq, hfq⟩ := bcell hEq; clear hEq hd; (try simp only [Act.put, SP.pick, SP.is, SP.box, id_eq, List.take_succ_cons, List.take_zero, List.drop_succ_cons, List.drop_zero, List.setIfInBounds_toArray, List.set_cons_zero, List.set_cons_succ]); refine growOp_go ?_; go_simp; exact ⟨Ext.refl _, rfl⟩))
      refine Chain.done ?_
      intro vs w9 hE9 hd9
      simp only [Act.put, SP.pick, SP.is, SP.box, id_eq, List.take_succ_cons, List.take_zero, List.drop_succ_cons, List.drop_zero, List.setIfInBounds_toArray, List.set_cons_zero, List.set_cons_succ]
      have Q9 := Lib.hid (Ext.trans Q8.out hE9)
      clear hd9 hE9 Q8 x1 x2 x3 y1 y2 y3
      obtain ⟨x1, x2, x3⟩ := blkE p7.out _ Q9.out
      go_wp2_with fail
      refine (markTq_ _ _ _ _ w3.heap.size w4.heap.size _ _ l N1.out ((P4.out.ext Q9.out).mono (by have := zW3.out; omega) (Nat.le_refl _)) (by have := z5.out; have := z6.out; have := zW.out; have := Q9.out.size; omega) (by omega) (by have := S1.out.2.2; omega)).mono ?_
      rintro e w10 ⟨rfl, h10, -⟩
      have C10 := Lib.hid ((Chg.of_ext (fun b => w3.heap.size ≤ b ∧ b < w4.heap.size) Q9.out).trans h10)
      clear h10 Q9 x1 x2 x3
      have P3' := Lib.hid (P3.out.chg C10.out (fun x h1 h2 h3 => by have := z3.out; omega))
      have P5' := Lib.hid (P5.out.chg C10.out (fun h1 h2 => by have := z5.out; omega))
      have O6' := Lib.hid (O6.out.chg C10.out (fun x h1 h2 h3 => by have := z5.out; omega))
      have E10 := Lib.hid (C10.out.ext E6.out (fun x hx => by have := z3.out; simp; omega))
      have p2' := Lib.hid (C10.out.blk p2.out (fun hx => by have := z3.out; omega))
      have p3' := Lib.hid (C10.out.blk p3.out (fun hx => by have := z3.out; omega))
      have p6' := Lib.hid (C10.out.blk p6.out (fun hx => by have := z3.out; omega))
      have p8' := Lib.hid (C10.out.blk p8.out (fun hx => by have := z5.out; omega))
      have p9' := Lib.hid (C10.out.blk b9.out (fun hx => by have := z5.out; have := z6.out; omega))
      clear P3 P5 O6 E6 p2 p3 p6 p7 p8 b9 C10 P4
      obtain ⟨x1, x2, x3⟩ := blk_cells p8'.out
      go_wp2_with fail
      refine (mark1Msg_ _ _ _ _ _ m.body.length _ G5 _ (by have := S1.out.2.2; omega) (by have := L2.out; omega) P5'.out.mk).mono ?_
      rintro e w11 ⟨rfl, h11, -⟩
      have C11 := Lib.hid h11
      clear h11 x1 x2 x3
      have P3'' := Lib.hid (P3'.out.chg C11.out (fun x h1 h2 h3 => by have := z3.out; have := z4.out; have := z5.out; omega))
      have O6'' := Lib.hid (O6'.out.chg C11.out (fun x h1 h2 h3 => by have := L5.out h3.1; omega))
      have E11 := Lib.hid (C11.out.ext E10.out (fun x hx => by have := z3.out; have := z4.out; have := z5.out; simp; omega))
      have q2 := Lib.hid (C11.out.blk p2'.out (fun hx => by have := z3.out; have := z4.out; have := z5.out; omega))
      have q3 := Lib.hid (C11.out.blk p3'.out (fun hx => by have := z3.out; have := z4.out; have := z5.out; omega))
      have q6 := Lib.hid (C11.out.blk p6'.out (fun hx => by have := z3.out; have := z4.out; have := z5.out; omega))
      have q9 := Lib.hid (C11.out.blk p9'.out (fun hx => by have := L5.out hx.1; have := z6.out; omega))
      clear P3' P5' O6' E10 p2' p3' p6' p8' p9' C11
      obtain ⟨x1, x2, x3⟩ := blk_cells q9.out
      obtain ⟨y1, y2, y3⟩ := blk_cells q6.out
      go_wp2_with fail
      refine (eqTq_ _ _ _ _ _ _ _ L rfl O6''.out.els P3''.out.els S1.out.1).mono ?_
      rintro e w13 ⟨rfl, h13⟩
      have Q13 := Lib.hid h13
      clear h13 x1 x2 x3 y1 y2 y3
      obtain ⟨x1, x2, x3⟩ := blkE q9.out _ Q13.out
      go_wp2_with fail
      refine (markTq_ _ _ _ _ (w5.heap.size + 1) w6.heap.size _ _ L rfl (O6''.out.ext Q13.out) (by have := heap_lt q9.out; have := Q13.out.size; omega) (by omega) (by have := S1.out.2.1; omega)).mono ?_
      rintro e w14 ⟨rfl, h14, hO14⟩
      have C14 := Lib.hid ((Chg.of_ext (fun b => w5.heap.size + 1 ≤ b ∧ b < w6.heap.size) Q13.out).trans h14)
      have O14 := Lib.hid hO14
      clear h14 hO14 Q13 x1 x2 x3
      have P14 := Lib.hid (P3''.out.chg C14.out (fun x h1 h2 h3 => by have := z3.out; have := z4.out; have := z5.out; omega))
      have E14 := Lib.hid (C14.out.ext E11.out (fun x hx => by have := z3.out; have := z4.out; have := z5.out; simp; omega))
      have r2 := Lib.hid (C14.out.blk q2.out (fun hx => by have := z3.out; have := z4.out; have := z5.out; omega))
      have r3 := Lib.hid (C14.out.blk q3.out (fun hx => by have := z3.out; have := z4.out; have := z5.out; omega))
      have r6 := Lib.hid (C14.out.blk q6.out (fun hx => by have := z3.out; have := z4.out; have := z5.out; omega))
      have r9 := Lib.hid (C14.out.blk q9.out (fun hx => by omega))
      clear P3'' O6'' C14 E11 q2 q3 q6 q9
      obtain ⟨x1, x2, x3⟩ := blk_cells r9.out
      go_wp2_with fail
      refine (heldTq_ _ _ _ _ _ _ L rfl O14.out.els (by omega) (by have := S1.out.2.1; omega)).mono ?_
      rintro e w15 ⟨rfl, h15⟩
      have Q15 := Lib.hid h15
      clear h15 x1 x2 x3
      obtain ⟨x1, x2, x3⟩ := blkE r2.out _ Q15.out
      obtain ⟨y1, y2, y3⟩ := blkE r3.out _ Q15.out
      go_wp2_with fail
      refine wp_region_chain 6 (by kernel_rfl) (by kernel_rfl) ?_
      simp only [List.take_succ_cons, List.take_zero, List.drop_succ_cons, List.drop_zero]
      (apply Chain.quiet; · (intro vs wq hEq hd; obtain ⟨hcq, hfq⟩ := bcell hEq; clear hEq hd; (try simp only [Act.put, SP.pick, SP.is, SP.box, id_eq, List.take_succ_cons, List.take_zero, List.drop_succ_cons, List.drop_zero, List.setIfInBounds_toArray, List.set_cons_zero, List.set_cons_succ]); refine growOp_go ?_; go_simp; exact ⟨Ext.refl _, rfl⟩))
      refine Chain.sp (SP.tqL n d l) ?_ ?_
      · intro vs wq hE hd
        clear hd
        (try simp only [Act.put, SP.pick, SP.is, SP.box, id_eq, List.take_succ_cons, List.take_zero, List.drop_succ_cons, List.drop_zero, List.setIfInBounds_toArray, List.set_cons_zero, List.set_cons_succ])
        refine growOp_go ?_
        go_simp
        refine (toTq_ _ _ _ _ _ l N1.out (els_up M1.out (Ext.trans E14.out (Ext.trans Q15.out hE))) L1.out).mono ?_
        rintro e w6 ⟨g6, rfl, hE6, hO6⟩
        exact ⟨_, rfl, hE6, _, _, rfl, hO6.els⟩
      (apply Chain.quiet; · (intro vs wq hEq hd; obtain ⟨hcq, hfq⟩ := bcell hEq; clear hEq hd; (try simp only [Act.put, SP.pick, SP.is, SP.box, id_eq, List.take_succ_cons, List.take_zero, List.drop_succ_cons, List.drop_zero, List.setIfInBounds_toArray, List.set_cons_zero, List.set_cons_succ]); refine growOp_go ?_; go_simp; exact ⟨Ext.refl _, rfl⟩))
      refine Chain.sp (SP.msgN m.to m.cat m.dl m.body) ?_ ?_
      · intro vs wq hE hd
        clear hd
        (try simp only [Act.put, SP.pick, SP.is, SP.box, id_eq, List.take_succ_cons, List.take_zero, List.drop_succ_cons, List.drop_zero, List.setIfInBounds_toArray, List.set_cons_zero, List.set_cons_succ])
        refine growOp_go ?_
        go_simp
        refine (toMsg_ _ _ _ _ _ _ _ m.body rfl (R1.out.ext (Ext.trans E14.out (Ext.trans Q15.out hE))) L2.out).mono ?_
        rintro e w6 ⟨g6, rfl, hE6, hg6, hO6⟩
        exact ⟨_, rfl, hE6, _, _, rfl, (NewB.of_blk (l := m.body) hg6 hO6).rb⟩
      refine Chain.sp (SP.tqO w15.heap.size L.length D L) ?_ ?_
      · intro vs wq hE hd
        obtain ⟨A7, c7, e7, Q7⟩ := hd 1 (by kernel_rfl)
        obtain ⟨A8, c8, e8, Q8⟩ := hd 3 (by kernel_rfl)
        have Q7' := Lib.hid Q7
        have Q8' := Lib.hid Q8
        have hz := Lib.hid hE.size
        clear hd Q7 Q8
        simp only [Act.put, SP.pick, SP.is, SP.box, id_eq, List.take_succ_cons, List.take_zero, List.drop_succ_cons, List.drop_zero, List.setIfInBounds_toArray, List.set_cons_zero, List.set_cons_succ]
        rw [e7, e8]
        refine growOp_go ?_
        clear e7 e8
        go_simp
        refine (iEnq _ _ _ _ _ l m _ _ N1.out Q7'.out D1.out K1.out Q8'.out L2.out).mono ?_
        rintro e w6 ⟨A6, c6, rfl, hE6, hO6⟩
        rw [← hL'.out] at hO6
        refine ⟨_, rfl, hE6, A6, c6, w6.heap.size, by rw [hL'.out, hD'.out], hO6.mono hz.out (Nat.le_refl _), Nat.le_refl _⟩
      refine Chain.sp (SP.box w15.heap.size #[.slice none 0 0, .int .i64 0] 54) ?_ ?_
      · intro vs wq hEq hd
        have hz := hEq.size
        clear hd
        (try simp only [Act.put, SP.pick, SP.is, SP.box, id_eq, List.take_succ_cons, List.take_zero, List.drop_succ_cons, List.drop_zero, List.setIfInBounds_toArray, List.set_cons_zero, List.set_cons_succ])
        refine growOp_go ?_
        go_simp
        exact ⟨Ext.alloc_ _ _, (Array.getElem?_eq_some_iff.1 (new_blk1 wq _ _)).2⟩
      refine Chain.done ?_
      intro vs w16 hE16 hd16
      simp only [Act.put, SP.pick, SP.is, SP.box, id_eq, List.take_succ_cons, List.take_zero, List.drop_succ_cons, List.drop_zero, List.setIfInBounds_toArray, List.set_cons_zero, List.set_cons_succ]
      obtain ⟨Ah, ch, C16, e16, O16, Z16⟩ := hd16 4
      obtain ⟨hb, eb, hgb2, bb⟩ := hd16 5
      rw [e16, eb]
      simp only [SP.tqO, SP.box, id_eq]
      clear hd16 e16 eb x1 x2 x3 y1 y2 y3
      obtain ⟨u1, u2, u3⟩ := blk_cells bb
      have H16 := Lib.hid ((hE16.setCell_ (p := ⟨hb, 0, none⟩) (by simpa using hgb2) (.slice Ah L.length ch)).setCell_ (p := ⟨hb, 1, none⟩) (by simpa using hgb2) (.int .i64 D))
      have W16 := Lib.hid (Own.set_box (j := 1) (Own.set_box (j := 0) O16 (by rw [u1]; rfl) (.slice Ah L.length ch)) (by have := (blk_cells (blk_set bb 0 (.slice Ah L.length ch))).1 0; simpa using this) (.int .i64 D))
      have c0 := u1 0
      have c1 := u1 1
      simp at c0 c1
      obtain ⟨x1, x2, x3⟩ := blk_cells (ext_blk (Ext.trans Q15.out hE16) r6.out)
      have d0 := x1 0
      have d1 := x1 1
      simp at d0 d1
      have hne : gb < hb := by have := heap_lt r6.out; have := Q15.out.size; omega
      have U16 := Lib.hid (Ext.trans Q15.out H16.out)
      clear hE16 O16 Z16 bb u1 x1 Q15 H16
      go_wp2_with fail
      refine (eqTq_ _ _ _ _ _ _ _ L rfl W16.out.els (els_up P14.out.els U16.out) S1.out.1).mono ?_
      rintro e w18 ⟨rfl, h18⟩
      have Q18 := Lib.hid (Ext.trans U16.out h18)
      clear h18 W16 U16 c0 c1 d0 d1 x2 x3 u2 u3
      obtain ⟨x1, x2, x3⟩ := blkE r9.out _ Q18.out
      go_wp2_with fail
      refine (heldTq_ _ _ _ _ _ _ L rfl (els_up O14.out.els Q18.out) (by omega) (by have := S1.out.2.1; omega)).mono ?_
      rintro e w19 ⟨rfl, h19⟩
      have Q19 := Lib.hid (Ext.trans Q18.out h19)
      clear h19 x1 x2 x3
      go_wp2_with fail
      go_ret
      exact ⟨rfl, Ext.trans E0.out (Ext.trans E14.out Q19.out)⟩
end Go.Proofs.Ytcjppmihmfcagaa
