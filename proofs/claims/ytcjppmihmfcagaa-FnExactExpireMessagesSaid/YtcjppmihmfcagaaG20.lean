/- The law on expired messages. -/
import Derived.Test.YtcjppmihmfcagaaLaw
import Derived.Test.YtcjppmihmfcagaaExpI
namespace Go.Proofs.Ytcjppmihmfcagaa
open Go.RowKit
set_option linter.unusedVariables false
set_option linter.unusedSimpArgs false
theorem keepM_sub (now : Int) (l : List Msg) : (keepM now l).Sublist l := List.filter_sublist
theorem walk_FnExactExpireMessages (a0 : Array Value) (a1 : Int) (w : World) (r0 : Rd Try.prog w 50 (Value.agg a0).cells.toList) (w1 : (Lit.int .i64 a1).wf = true) :
    Calls Try.prog 6 #[.agg a0, .int .i64 a1] w fun e w' => e = .returned (.bool true) ∧ Below w.heap.size w w' := by
  obtain ⟨A, n, c, d, hcs, l, hn, hM, hm, hby⟩ := tq_rd r0
  obtain ⟨cs⟩ := a0
  simp only [Value.cells] at hcs
  subst hcs
  have E0 := Lib.hid (Ext.alloc_ w (.cells #[.slice A n c, .int .i64 d] 50))
  have b2 := Lib.hid (new_blk1 w #[.slice A n c, .int .i64 d] 50)
  have N1 := Lib.hid hn
  have M1 := Lib.hid (els_up hM E0.out)
  have X1 := Lib.hid hm
  have B1 := Lib.hid hby
  have T1 := Lib.hid (tot_nonneg (K := kMsg) l)
  clear r0 w1 hn hM hm hby
  by_cases hbig : (1048576 : Int) < (n : Int) + tot kMsg l
  · go_enter Try.func6, Try.ntmps6
    go_wp2_with fail
    refine (szTq_ _ _ _ _ _ l _ N1.out M1.out B1.out ⟨by omega, by omega⟩ X1.out).mono ?_
    rintro e w1 ⟨rfl, h1⟩
    rw [if_pos hbig]
    go_wp2_with fail
    go_ret
    exact ⟨rfl, Ext.trans E0.out h1⟩
  · have L1 := Lib.hid (show (n : Int) + tot kMsg l ≤ 1048576 by omega)
    have K1 := Lib.hid (show n ≤ 1048576 by have := L1.out; have := T1.out; omega)
    have D1 : Hid (∀ m ∈ l, m.body.length ≤ 1048576) := fun m hm => by
      obtain ⟨i, hi, rfl⟩ := List.getElem_of_mem hm
      have h1 := tot_one_le (K := kMsg) l i hi
      rw [kMsg_bd] at h1
      have := L1.out
      omega
    obtain ⟨L, hL⟩ : ∃ L, L = keepM a1 l := ⟨_, rfl⟩
    obtain ⟨D, hD⟩ : ∃ D, D = dropM a1 d l := ⟨_, rfl⟩
    have hL' := Lib.hid hL
    have hD' := Lib.hid hD
    have S1 := Lib.hid (show (L.length : Int) + tot kMsg L ≤ 1048576 ∧ ((sumC cMsg L : Nat) : Int) ≤ 4194304 ∧ ((sumC cMsg l : Nat) : Int) ≤ 4194304 by
      have h1 := tot_sub (K := kMsg) (keepM_sub a1 l)
      rw [← hL] at h1
      have h2 := sumC_msg L
      have h3 := sumC_msg l
      have h4 := tot_nonneg (K := kMsg) L
      have h5 := tot_nonneg (K := kMsg) l
      have h6 := L1.out
      have h7 := N1.out
      refine ⟨by omega, by omega, by omega⟩)
    clear hL hD
    go_enter Try.func6, Try.ntmps6
    go_wp2_with fail
    refine (szTq_ _ _ _ _ _ l _ N1.out M1.out B1.out ⟨by omega, by omega⟩ X1.out).mono ?_
    rintro e w1 ⟨rfl, h1⟩
    rw [if_neg (by omega)]
    have hs2 : ¬ (1048576 - ((n : Int) + tot kMsg l) < 0) := by omega
    have E1 := Lib.hid h1
    obtain ⟨x1, x2, x3⟩ := blkE b2.out _ h1
    clear h1 hbig
    go_wp2_with fail
    refine (toTq_ _ _ _ _ _ l N1.out (els_up M1.out E1.out) L1.out).mono ?_
    rintro e w2 ⟨G2, rfl, h2, hO2⟩
    have E2 := Lib.hid (Ext.trans E1.out h2)
    have M2 := Lib.hid hO2.els
    clear h2 hO2 x1 x2 x3 hs2
    go_wp2_with fail
    refine (sExpM _ _ _ _ _ _ l N1.out M2.out D1.out K1.out).mono ?_
    rintro e w3 ⟨Aw, cw, rfl, h3, hO3⟩
    rw [← hL'.out, ← hD'.out]
    rw [← hL'.out] at hO3
    have e3 := Ext.alloc_ w3 (.cells #[.slice Aw L.length cw, .int .i64 D] 54)
    have E3 := Lib.hid (Ext.trans (Ext.trans E2.out h3) e3)
    have O3 := Lib.hid (hO3.ext e3)
    have b6 := Lib.hid (new_blk1 w3 #[.slice Aw L.length cw, .int .i64 D] 54)
    have z3 := Lib.hid (show w.heap.size + 1 ≤ w2.heap.size ∧ w2.heap.size ≤ w3.heap.size by have := E2.out.size; have := h3.size; simp at *; omega)
    clear h3 hO3 e3 M2
    obtain ⟨x1, x2, x3⟩ := blkE b2.out _ E3.out
    go_wp2_with fail
    refine (toTq_ _ _ _ _ _ l N1.out (els_up M1.out E3.out) L1.out).mono ?_
    rintro e w4 ⟨G4, rfl, h4, hO4⟩
    have e4 := Ext.alloc_ w4 (.cells #[.slice (some ⟨G4, 0, none⟩) n n, .int .i64 d] 54)
    have F4 := Lib.hid (Ext.trans h4 e4)
    have E4 := Lib.hid (Ext.trans E3.out F4.out)
    have O4 := Lib.hid (hO4.ext e4)
    have b7 := Lib.hid (new_blk1 w4 #[.slice (some ⟨G4, 0, none⟩) n n, .int .i64 d] 54)
    have z4 := Lib.hid (show w3.heap.size + 1 ≤ w4.heap.size by have := h4.size; simpa using this)
    clear h4 hO4 e4 x1 x2 x3
    obtain ⟨x1, x2, x3⟩ := blk_cells b7.out
    go_wp2_with fail
    refine (iExpM _ _ _ _ _ _ l N1.out O4.out.els D1.out K1.out).mono ?_
    rintro e w5 ⟨Ag, cg, rfl, h5, hO5⟩
    rw [← hL'.out, ← hD'.out]
    rw [← hL'.out] at hO5
    have e5 := Ext.alloc_ w5 (.cells #[.slice Ag L.length cg, .int .i64 D] 54)
    have F5 := Lib.hid (Ext.trans h5 e5)
    have E5 := Lib.hid (Ext.trans E4.out F5.out)
    have O5 := Lib.hid (hO5.ext e5)
    have b8 := Lib.hid (new_blk1 w5 #[.slice Ag L.length cg, .int .i64 D] 54)
    have z5 := Lib.hid (show w4.heap.size + 1 ≤ w5.heap.size by have := h5.size; simpa using this)
    clear h5 hO5 e5 x1 x2 x3
    -- all of it in the world behind the program's call
    have P3 := Lib.hid (O3.out.ext (Ext.trans F4.out F5.out))
    have P4 := Lib.hid (O4.out.ext F5.out)
    have p2 := Lib.hid (ext_blk E5.out b2.out)
    have p6 := Lib.hid (ext_blk (Ext.trans F4.out F5.out) b6.out)
    have p7 := Lib.hid (ext_blk F5.out b7.out)
    clear O3 O4 b6 b7 E1 E2 E3 E4 F4 F5
    obtain ⟨x1, x2, x3⟩ := blk_cells b8.out
    obtain ⟨y1, y2, y3⟩ := blk_cells p6.out
    go_wp2_with fail
    generalize hW5 : w5.alloc (.cells #[.slice Ag L.length cg, .int .i64 D] 54) = W5 at *
    have zW := Lib.hid (show W5.heap.size = w5.heap.size + 1 by rw [← hW5]; simp)
    clear hW5
    refine (eqTq_ _ _ _ _ _ _ _ L rfl O5.out.els P3.out.els (by have := S1.out.1; omega)).mono ?_
    rintro e w6 ⟨rfl, h6⟩
    have Q6 := Lib.hid h6
    clear h6 x1 x2 x3 y1 y2 y3
    obtain ⟨x1, x2, x3⟩ := blkE p7.out _ Q6.out
    obtain ⟨y1, y2, y3⟩ := blkE p2.out _ Q6.out
    go_wp2_with fail
    refine wp_region_chain 5 (by kernel_rfl) (by kernel_rfl) ?_
    simp only [List.take_succ_cons, List.take_zero, List.drop_succ_cons, List.drop_zero]
    repeat (apply Chain.quiet; · (intro vs wq hEq hd; obtain ⟨hcq, hfq⟩ := bcell hEq; clear hEq hd; (try simp only [Act.put, SP.pick, SP.is, SP.box, id_eq, List.take_succ_cons, List.take_zero, List.drop_succ_cons, List.drop_zero, List.setIfInBounds_toArray, List.set_cons_zero, List.set_cons_succ]); refine growOp_go ?_; go_simp; exact ⟨Ext.refl _, rfl⟩))
    refine Chain.sp (SP.tq n d l) ?_ ?_
    · intro vs wq hE hd
      clear hd
      (try simp only [Act.put, SP.pick, SP.is, SP.box, id_eq, List.take_succ_cons, List.take_zero, List.drop_succ_cons, List.drop_zero, List.setIfInBounds_toArray, List.set_cons_zero, List.set_cons_succ])
      refine growOp_go ?_
      go_simp
      refine (toTq_ _ _ _ _ _ l N1.out (els_up M1.out (Ext.trans E5.out (Ext.trans Q6.out hE))) L1.out).mono ?_
      rintro e w6 ⟨g6, rfl, hE6, hO6⟩
      exact ⟨_, rfl, hE6, _, _, rfl, hO6.els⟩
    apply Chain.quiet
    · intro vs wq hE hd
      obtain ⟨A7, c7, e7, Q7⟩ := hd 2 (by kernel_rfl)
      clear hd
      simp only [Act.put, SP.pick, SP.is, SP.box, id_eq, List.take_succ_cons, List.take_zero, List.drop_succ_cons, List.drop_zero, List.setIfInBounds_toArray, List.set_cons_zero, List.set_cons_succ]
      rw [e7]
      refine growOp_go ?_
      clear e7
      go_simp
      refine (eqTq_ _ _ _ _ _ _ _ l N1.out (els_up P4.out.els (Ext.trans Q6.out hE)) Q7 (by have := L1.out; omega)).mono ?_
      rintro e w7 ⟨rfl, hb7⟩
      first | exact ⟨rfl, hb7⟩ | exact ⟨_, rfl, hb7, rfl⟩
    (apply Chain.quiet; · (intro vs wq hEq hd; obtain ⟨hcq, hfq⟩ := bcell hEq; clear hEq hd; (try simp only [Act.put, SP.pick, SP.is, SP.box, id_eq, List.take_succ_cons, List.take_zero, List.drop_succ_cons, List.drop_zero, List.setIfInBounds_toArray, List.set_cons_zero, List.set_cons_succ]); refine growOp_go ?_; go_simp; exact ⟨Ext.refl _, rfl⟩))
    refine Chain.done ?_
    intro vs w7 hE7 hd7
    simp only [Act.put, SP.pick, SP.is, SP.box, id_eq, List.take_succ_cons, List.take_zero, List.drop_succ_cons, List.drop_zero, List.setIfInBounds_toArray, List.set_cons_zero, List.set_cons_succ]
    have Q7 := Lib.hid (Ext.trans Q6.out hE7)
    clear hd7 hE7 Q6 x1 x2 x3 y1 y2 y3
    obtain ⟨x1, x2, x3⟩ := blkE p7.out _ Q7.out
    go_wp2_with fail
    refine (markTq_ _ _ _ _ (w3.heap.size + 1) w4.heap.size _ _ l N1.out ((P4.out.ext Q7.out).mono (by simp) (Nat.le_refl _)) (by have := z5.out; have := zW.out; have := Q7.out.size; omega) (by omega) (by have := S1.out.2.2; omega)).mono ?_
    rintro e w8 ⟨rfl, h8, -⟩
    have C8 := Lib.hid ((Chg.of_ext (fun b => w3.heap.size + 1 ≤ b ∧ b < w4.heap.size) Q7.out).trans h8)
    clear h8 Q7 x1 x2 x3
    have P3' := Lib.hid (P3.out.chg C8.out (fun x h1 h2 h3 => by omega))
    have O5' := Lib.hid (O5.out.chg C8.out (fun x h1 h2 h3 => by simp at h1; omega))
    have hnl : ¬ (1 + ((sumC cMsg l : Nat) : Int) < 0) := by omega
    have hnL : ¬ (1 + ((sumC cMsg L : Nat) : Int) < 0) := by omega
    have E8 := Lib.hid (C8.out.ext E5.out (fun x hx => by have := z3.out; simp; omega))
    have p2' := Lib.hid (C8.out.blk p2.out (fun hx => by have := z3.out; omega))
    have p6' := Lib.hid (C8.out.blk p6.out (fun hx => by omega))
    have p8' := Lib.hid (C8.out.blk b8.out (fun hx => by have := z5.out; omega))
    clear P3 O5 p2 p6 p7 b8 C8 E5 P4
    obtain ⟨x1, x2, x3⟩ := blk_cells p8'.out
    obtain ⟨y1, y2, y3⟩ := blk_cells p6'.out
    go_wp2_with fail
    refine (eqTq_ _ _ _ _ _ _ _ L rfl O5'.out.els P3'.out.els (by have := S1.out.1; omega)).mono ?_
    rintro e w9 ⟨rfl, h9⟩
    have Q9 := Lib.hid h9
    clear h9 x1 x2 x3 y1 y2 y3
    obtain ⟨x1, x2, x3⟩ := blkE p8'.out _ Q9.out
    go_wp2_with fail
    refine (markTq_ _ _ _ _ (w4.heap.size + 1) w5.heap.size _ _ L rfl ((O5'.out.ext Q9.out).mono (by simp) (Nat.le_refl _)) (by have := heap_lt p8'.out; have := Q9.out.size; omega) (by omega) (by have := S1.out.2.1; omega)).mono ?_
    rintro e w10 ⟨rfl, h10, hO10⟩
    have C10 := Lib.hid ((Chg.of_ext (fun b => w4.heap.size + 1 ≤ b ∧ b < w5.heap.size) Q9.out).trans h10)
    have O10 := Lib.hid hO10
    clear h10 hO10 Q9 x1 x2 x3
    have P10 := Lib.hid (P3'.out.chg C10.out (fun x h1 h2 h3 => by have := z4.out; omega))
    have E10 := Lib.hid (C10.out.ext E8.out (fun x hx => by have := z3.out; have := z4.out; simp; omega))
    have q2 := Lib.hid (C10.out.blk p2'.out (fun hx => by have := z3.out; have := z4.out; omega))
    have q6 := Lib.hid (C10.out.blk p6'.out (fun hx => by have := z4.out; omega))
    have q8 := Lib.hid (C10.out.blk p8'.out (fun hx => by omega))
    clear P3' O5' p2' p6' p8' C10 E8
    obtain ⟨x1, x2, x3⟩ := blk_cells q8.out
    go_wp2_with fail
    refine (heldTq_ _ _ _ _ _ _ L rfl O10.out.els (by omega) (by have := S1.out.2.1; omega)).mono ?_
    rintro e w11 ⟨rfl, h11⟩
    have Q11 := Lib.hid h11
    clear h11 x1 x2 x3
    obtain ⟨x1, x2, x3⟩ := blkE q2.out _ Q11.out
    go_wp2_with fail
    refine (toTq_ _ _ _ _ _ l N1.out (els_up M1.out (Ext.trans E10.out Q11.out)) L1.out).mono ?_
    rintro e w12 ⟨G12, rfl, h12, hO12⟩
    have Q12 := Lib.hid (Ext.trans Q11.out h12)
    have M12 := Lib.hid hO12.els
    clear h12 hO12 x1 x2 x3 Q11
    go_wp2_with fail
    refine (iExpM _ _ _ _ _ _ l N1.out M12.out D1.out K1.out).mono ?_
    rintro e w13 ⟨Ah, ch, rfl, h13, hO13⟩
    rw [← hL'.out, ← hD'.out]
    rw [← hL'.out] at hO13
    have e13 := Ext.alloc_ w13 (.cells #[.slice Ah L.length ch, .int .i64 D] 54)
    have Q13 := Lib.hid (Ext.trans (Ext.trans Q12.out h13) e13)
    have O13 := Lib.hid (hO13.ext e13).els
    have b12 := Lib.hid (new_blk1 w13 #[.slice Ah L.length ch, .int .i64 D] 54)
    clear h13 hO13 e13 Q12 M12
    obtain ⟨x1, x2, x3⟩ := blk_cells b12.out
    obtain ⟨y1, y2, y3⟩ := blkE q6.out _ Q13.out
    go_wp2_with fail
    refine (eqTq_ _ _ _ _ _ _ _ L rfl O13.out (els_up P10.out.els Q13.out) (by have := S1.out.1; omega)).mono ?_
    rintro e w14 ⟨rfl, h14⟩
    have Q14 := Lib.hid (Ext.trans Q13.out h14)
    clear h14 x1 x2 x3 y1 y2 y3
    obtain ⟨x1, x2, x3⟩ := blkE q8.out _ Q14.out
    go_wp2_with fail
    refine (heldTq_ _ _ _ _ _ _ L rfl (els_up O10.out.els Q14.out) (by omega) (by have := S1.out.2.1; omega)).mono ?_
    rintro e w15 ⟨rfl, h15⟩
    have Q15 := Lib.hid (Ext.trans Q14.out h15)
    clear h15 x1 x2 x3
    go_wp2_with fail
    go_ret
    exact ⟨rfl, Ext.trans E0.out (Ext.trans E10.out Q15.out)⟩
end Go.Proofs.Ytcjppmihmfcagaa
