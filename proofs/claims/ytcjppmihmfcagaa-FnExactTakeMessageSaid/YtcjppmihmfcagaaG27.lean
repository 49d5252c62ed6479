/- The law on a message taken out of a queue. -/
import Derived.Test.YtcjppmihmfcagaaTakI
import Derived.Test.YtcjppmihmfcagaaNb
namespace Go.Proofs.Ytcjppmihmfcagaa
open Go.RowKit
set_option linter.unusedVariables false
set_option linter.unusedSimpArgs false
theorem tk_len (l : List Msg) (i : Int) : ((tkL l i).length : Int) + tot kMsg (tkL l i) ≤ l.length + tot kMsg l ∧ ((tkM l i).body.length : Int) ≤ tot kMsg l := by
  constructor
  · unfold tkL
    split
    · exact (tot_sub (K := kMsg) (List.eraseIdx_sublist _ _)).1
    · exact Int.le_refl _
  · by_cases h : 0 ≤ i ∧ i < (l.length : Int)
    · obtain ⟨k, rfl⟩ : ∃ k : Nat, i = (k : Int) := ⟨i.toNat, by omega⟩
      have hk : k < l.length := by omega
      rw [tkM_get hk]
      have h1 := tot_one_le (K := kMsg) l k hk
      rwa [kMsg_bd] at h1
    · rw [tkM_not h]
      simpa using tot_nonneg (K := kMsg) l
set_option maxHeartbeats 4000000 in
theorem walk_FnExactTakeMessage (a0 : Array Value) (a1 : Int) (w : World) (r0 : Rd Try.prog w 50 (Value.agg a0).cells.toList) (w1 : (Lit.int .i64 a1).wf = true) :
    Calls Try.prog 9 #[.agg a0, .int .i64 a1] w fun e w' => e = .returned (.bool true) ∧ Below w.heap.size w w' := by
  obtain ⟨A, n, c, d, hcs, l, hn, hM, hm, hby⟩ := tq_rd r0
  obtain ⟨cs⟩ := a0
  simp only [Value.cells] at hcs
  subst hcs
  have E0 := Lib.hid (Ext.alloc_ w (.cells #[.slice A n c, .int .i64 d] 50))
  have b2 := Lib.hid (new_blk1 w #[.slice A n c, .int .i64 d] 50)
  have N1 := Lib.hid hn
  have M1 := Lib.hid (els_up hM E0.out)
  have X1 := Lib.hid hm
  have B1 := Lib.hid hby
  have T1 := Lib.hid (tot_nonneg (K := kMsg) l)
  clear r0 w1 hn hM hm hby
  by_cases hbig : (1048576 : Int) < (n : Int) + tot kMsg l
  · go_enter Try.func9, Try.ntmps9
    go_wp2_with fail
    refine (szTq_ _ _ _ _ _ l _ N1.out M1.out B1.out ⟨by omega, by omega⟩ X1.out).mono ?_
    rintro e w1 ⟨rfl, h1⟩
    rw [if_pos hbig]
    go_wp2_with fail
    go_ret
    exact ⟨rfl, Ext.trans E0.out h1⟩
  · have L1 := Lib.hid (show (n : Int) + tot kMsg l ≤ 1048576 by omega)
    have K1 := Lib.hid (show n ≤ 1048576 by have := L1.out; have := T1.out; omega)
    have D1 : Hid (∀ m ∈ l, m.body.length ≤ 1048576) := fun m hm => by
      obtain ⟨i, hi, rfl⟩ := List.getElem_of_mem hm
      have h1 := tot_one_le (K := kMsg) l i hi
      rw [kMsg_bd] at h1
      have := L1.out
      omega
    obtain ⟨L, hL⟩ : ∃ L, L = tkL l a1 := ⟨_, rfl⟩
    obtain ⟨m, hm⟩ : ∃ m, m = tkM l a1 := ⟨_, rfl⟩
    obtain ⟨ok, ho⟩ : ∃ ok, ok = tkB l a1 := ⟨_, rfl⟩
    have hL' := Lib.hid hL
    have hm' := Lib.hid hm
    have ho' := Lib.hid ho
    have S1 := Lib.hid (show (L.length : Int) + tot kMsg L ≤ 1048576 ∧ ((sumC cMsg L : Nat) : Int) ≤ 4194304 ∧ ((sumC cMsg l : Nat) : Int) ≤ 4194304 ∧ m.body.length ≤ 1048576 by
      have h0 := (tk_len l a1).2
      have h1 := (tk_len l a1).1
      rw [← hL] at h1
      rw [← hm] at h0
      have h2 := sumC_msg L
      have h3 := sumC_msg l
      have h4 := tot_nonneg (K := kMsg) L
      have h5 := tot_nonneg (K := kMsg) l
      have h6 := L1.out
      have h7 := N1.out
      refine ⟨by omega, by omega, by omega, by omega⟩)
    clear hL hm ho
    have hnl : ¬ (1 + ((sumC cMsg l : Nat) : Int) < 0) := by omega
    have hnL : ¬ (1 + ((sumC cMsg L : Nat) : Int) < 0) := by omega
    have hnM : ¬ (1 + ((sumC cMsg L : Nat) : Int) + (m.body.length : Int) < 0) := by omega
    go_enter Try.func9, Try.ntmps9
    go_wp2_with fail
    refine (szTq_ _ _ _ _ _ l _ N1.out M1.out B1.out ⟨by omega, by omega⟩ X1.out).mono ?_
    rintro e w1 ⟨rfl, h1⟩
    rw [if_neg (by omega)]
    have hs2 : ¬ (1048576 - ((n : Int) + tot kMsg l) < 0) := by omega
    have E1 := Lib.hid h1
    obtain ⟨x1, x2, x3⟩ := blkE b2.out _ h1
    clear h1 hbig
    go_wp2_with fail
    refine (toTq_ _ _ _ _ _ l N1.out (els_up M1.out E1.out) L1.out).mono ?_
    rintro e w2 ⟨G2, rfl, h2, hO2⟩
    have E2 := Lib.hid (Ext.trans E1.out h2)
    have M2 := Lib.hid hO2.els
    clear h2 hO2 x1 x2 x3 hs2
    go_wp2_with fail
    refine (sTake _ _ _ _ _ _ l N1.out M2.out D1.out K1.out).mono ?_
    rintro e w3 ⟨Aw, cw, gw, Bw, dw, rfl, h3, hO3, hN3⟩
    rw [← hL'.out, ← hm'.out, ← ho'.out]
    rw [← hL'.out] at hO3
    rw [← hm'.out] at hN3
    have e3 := Ext.trans (Ext.alloc_ w3 (.cells #[.slice Aw L.length cw, .int .i64 d] 54)) (Ext.alloc_ _ (.cells #[.int .i64 m.to, .int .i64 m.cat, .int .i64 m.dl, .slice Bw m.body.length dw] 71))
    have E3 := Lib.hid (Ext.trans (Ext.trans E2.out h3) e3)
    have O3 := Lib.hid (hO3.ext e3)
    have NN3 := Lib.hid (hN3.ext e3)
    have lt3 := Lib.hid (hN3.lt)
    have b6 := Lib.hid (ext_blk (Ext.alloc_ _ (.cells #[.int .i64 m.to, .int .i64 m.cat, .int .i64 m.dl, .slice Bw m.body.length dw] 71)) (new_blk1 w3 #[.slice Aw L.length cw, .int .i64 d] 54))
    have b7 := Lib.hid (new_blk2 w3 (.cells #[.slice Aw L.length cw, .int .i64 d] 54) #[.int .i64 m.to, .int .i64 m.cat, .int .i64 m.dl, .slice Bw m.body.length dw] 71)
    have z3 := Lib.hid (show w.heap.size + 1 ≤ w2.heap.size ∧ w2.heap.size ≤ w3.heap.size by have := E2.out.size; have := h3.size; simp at *; omega)
    clear h3 hO3 hN3 e3 M2
    obtain ⟨x1, x2, x3⟩ := blkE b2.out _ E3.out
    go_wp2_with fail
    refine (toTq_ _ _ _ _ _ l N1.out (els_up M1.out E3.out) L1.out).mono ?_
    rintro e w4 ⟨G4, rfl, h4, hO4⟩
    have e4 := Ext.alloc_ w4 (.cells #[.slice (some ⟨G4, 0, none⟩) n n, .int .i64 d] 54)
    have F4 := Lib.hid (Ext.trans h4 e4)
    have E4 := Lib.hid (Ext.trans E3.out F4.out)
    have O4 := Lib.hid (hO4.ext e4)
    have b9 := Lib.hid (new_blk1 w4 #[.slice (some ⟨G4, 0, none⟩) n n, .int .i64 d] 54)
    have z4 := Lib.hid (show w3.heap.size + 1 + 1 ≤ w4.heap.size by have := h4.size; simpa using this)
    clear h4 hO4 e4 x1 x2 x3
    obtain ⟨x1, x2, x3⟩ := blk_cells b9.out
    go_wp2_with fail
    refine (iTake _ _ _ _ _ _ l N1.out O4.out.els D1.out K1.out).mono ?_
    rintro e w5 ⟨Ag, cg, g5, Bg, dg, rfl, h5, hO5, hN5⟩
    rw [← hL'.out, ← hm'.out, ← ho'.out]
    rw [← hL'.out] at hO5
    rw [← hm'.out] at hN5
    have e5 := Ext.trans (Ext.alloc_ w5 (.cells #[.slice Ag L.length cg, .int .i64 d] 54)) (Ext.alloc_ _ (.cells #[.int .i64 m.to, .int .i64 m.cat, .int .i64 m.dl, .slice Bg m.body.length dg] 71))
    have F5 := Lib.hid (Ext.trans h5 e5)
    have E5 := Lib.hid (Ext.trans E4.out F5.out)
    have O5 := Lib.hid (hO5.ext e5)
    have NN5 := Lib.hid (hN5.ext e5)
    have lt5 := Lib.hid (hN5.lt)
    have b10 := Lib.hid (ext_blk (Ext.alloc_ _ (.cells #[.int .i64 m.to, .int .i64 m.cat, .int .i64 m.dl, .slice Bg m.body.length dg] 71)) (new_blk1 w5 #[.slice Ag L.length cg, .int .i64 d] 54))
    have b11 := Lib.hid (new_blk2 w5 (.cells #[.slice Ag L.length cg, .int .i64 d] 54) #[.int .i64 m.to, .int .i64 m.cat, .int .i64 m.dl, .slice Bg m.body.length dg] 71)
    have z5 := Lib.hid (show w4.heap.size + 1 ≤ w5.heap.size ∧ w4.heap.size + 1 ≤ g5 by have := h5.size; have := hN5.2.2.1; simp at *; omega)
    simp only [World.size_alloc] at O5 NN5
    clear h5 hO5 hN5 e5 x1 x2 x3
    have P3 := Lib.hid (O3.out.ext (Ext.trans F4.out F5.out))
    have PN3 := Lib.hid (NN3.out.ext (Ext.trans F4.out F5.out))
    have P4 := Lib.hid (O4.out.ext F5.out)
    have p2 := Lib.hid (ext_blk E5.out b2.out)
    have p6 := Lib.hid (ext_blk (Ext.trans F4.out F5.out) b6.out)
    have p7 := Lib.hid (ext_blk (Ext.trans F4.out F5.out) b7.out)
    have p9 := Lib.hid (ext_blk F5.out b9.out)
    clear O3 NN3 O4 b6 b7 b9 E1 E2 E3 E4 F4 F5
    obtain ⟨x1, x2, x3⟩ := blk_cells b10.out
    obtain ⟨y1, y2, y3⟩ := blk_cells p6.out
    obtain ⟨u1, u2, u3⟩ := blk_cells b11.out
    obtain ⟨v1, v2, v3⟩ := blk_cells p7.out
    go_wp2_with fail
    generalize hW5 : (w5.alloc (.cells #[.slice Ag L.length cg, .int .i64 d] 54)).alloc (.cells #[.int .i64 m.to, .int .i64 m.cat, .int .i64 m.dl, .slice Bg m.body.length dg] 71) = W5 at *
    have zW := Lib.hid (show W5.heap.size = w5.heap.size + 1 + 1 by rw [← hW5]; simp)
    clear hW5
    refine (eqTq_ _ _ _ _ _ _ _ L rfl O5.out.own.els P3.out.els (by have := S1.out.1; omega)).mono ?_
    rintro e w6 ⟨rfl, h6⟩
    have Q6 := Lib.hid h6
    clear h6 x1 x2 x3 y1 y2 y3 u1 u2 u3 v1 v2 v3
    obtain ⟨u1, u2, u3⟩ := blkE b11.out _ Q6.out
    obtain ⟨v1, v2, v3⟩ := blkE p7.out _ Q6.out
    go_wp2_with fail
    refine (eqMsg_ _ _ _ _ _ _ _ _ _ m.body rfl (NN5.out.rb.ext Q6.out) (PN3.out.rb.ext Q6.out) S1.out.2.2.2).mono ?_
    rintro e w7 ⟨rfl, h7⟩
    have Q7 := Lib.hid (Ext.trans Q6.out h7)
    clear h7 u1 u2 u3 v1 v2 v3 Q6
    obtain ⟨x1, x2, x3⟩ := blkE p9.out _ Q7.out
    obtain ⟨y1, y2, y3⟩ := blkE p2.out _ Q7.out
    go_wp2_with fail
    refine wp_region_chain 5 (by kernel_rfl) (by kernel_rfl) ?_
    simp only [List.take_succ_cons, List.take_zero, List.drop_succ_cons, List.drop_zero]
    repeat (apply Chain.quiet; · (intro vs wq hEq hd; obtain ⟨hcq, hfq⟩ := bcell hEq; clear hEq hd; (try simp only [Act.put, SP.pick, SP.is, SP.box, id_eq, List.take_succ_cons, List.take_zero, List.drop_succ_cons, List.drop_zero, List.setIfInBounds_toArray, List.set_cons_zero, List.set_cons_succ]); refine growOp_go ?_; go_simp; exact ⟨Ext.refl _, rfl⟩))
    refine Chain.sp (SP.tqL n d l) ?_ ?_
    · intro vs wq hE hd
      clear hd
      (try simp only [Act.put, SP.pick, SP.is, SP.box, id_eq, List.take_succ_cons, List.take_zero, List.drop_succ_cons, List.drop_zero, List.setIfInBounds_toArray, List.set_cons_zero, List.set_cons_succ])
      refine growOp_go ?_
      go_simp
      refine (toTq_ _ _ _ _ _ l N1.out (els_up M1.out (Ext.trans E5.out (Ext.trans Q7.out hE))) L1.out).mono ?_
      rintro e w6 ⟨g6, rfl, hE6, hO6⟩
      exact ⟨_, rfl, hE6, _, _, rfl, hO6.els⟩
    apply Chain.quiet
    · intro vs wq hE hd
      obtain ⟨A7, c7, e7, Q8⟩ := hd 2 (by kernel_rfl)
      clear hd
      simp only [Act.put, SP.pick, SP.is, SP.box, id_eq, List.take_succ_cons, List.take_zero, List.drop_succ_cons, List.drop_zero, List.setIfInBounds_toArray, List.set_cons_zero, List.set_cons_succ]
      rw [e7]
      refine growOp_go ?_
      clear e7
      go_simp
      refine (eqTq_ _ _ _ _ _ _ _ l N1.out (els_up P4.out.els (Ext.trans Q7.out hE)) Q8 (by have := L1.out; omega)).mono ?_
      rintro e w7 ⟨rfl, hb7⟩
      first | exact ⟨rfl, hb7⟩ | exact ⟨_, rfl, hb7, rfl⟩
    (apply Chain.quiet; · (intro vs wq hEq hd; obtain ⟨hcq, hfq⟩ := bcell hEq; clear hEq hd; (try simp only [Act.put, SP.pick, SP.is, SP.box, id_eq, List.take_succ_cons, List.take_zero, List.drop_succ_cons, List.drop_zero, List.setIfInBounds_toArray, List.set_cons_zero, List.set_cons_succ]); refine growOp_go ?_; go_simp; exact ⟨Ext.refl _, rfl⟩))
    refine Chain.done ?_
    intro vs w8 hE8 hd8
    simp only [Act.put, SP.pick, SP.is, SP.box, id_eq, List.take_succ_cons, List.take_zero, List.drop_succ_cons, List.drop_zero, List.setIfInBounds_toArray, List.set_cons_zero, List.set_cons_succ]
    have Q8 := Lib.hid (Ext.trans Q7.out hE8)
    clear hd8 hE8 Q7 x1 x2 x3 y1 y2 y3
    obtain ⟨x1, x2, x3⟩ := blkE p9.out _ Q8.out
    go_wp2_with fail
    refine (markTq_ _ _ _ _ (w3.heap.size + 1 + 1) w4.heap.size _ _ l N1.out ((P4.out.ext Q8.out).mono (by simp) (Nat.le_refl _)) (by have := z5.out; have := zW.out; have := Q8.out.size; omega) (by omega) (by have := S1.out.2.2; omega)).mono ?_
    rintro e w9 ⟨rfl, h9, -⟩
    have C9 := Lib.hid ((Chg.of_ext (fun b => w3.heap.size + 1 + 1 ≤ b ∧ b < w4.heap.size) Q8.out).trans h9)
    clear h9 Q8 x1 x2 x3
    have P3' := Lib.hid (P3.out.chg C9.out (fun x h1 h2 h3 => by omega))
    have PN3' := Lib.hid (PN3.out.chg C9.out (fun h1 h2 => by have := lt3.out h1; omega))
    have O5' := Lib.hid (O5.out.chg C9.out (fun x h1 h2 h3 h4 => by omega))
    have NN5' := Lib.hid (NN5.out.chg C9.out (fun h1 h2 => by have := z5.out; omega))
    have E9 := Lib.hid (C9.out.ext E5.out (fun x hx => by have := z3.out; simp; omega))
    have p2' := Lib.hid (C9.out.blk p2.out (fun hx => by have := z3.out; omega))
    have p6' := Lib.hid (C9.out.blk p6.out (fun hx => by omega))
    have p7' := Lib.hid (C9.out.blk p7.out (fun hx => by omega))
    have p10' := Lib.hid (C9.out.blk b10.out (fun hx => by have := z5.out; omega))
    have p11' := Lib.hid (C9.out.blk b11.out (fun hx => by have := z5.out; omega))
    have zz9 := Lib.hid C9.out.size
    clear P3 PN3 O5 NN5 E5 p2 p6 p7 p9 b10 b11 C9 P4
    obtain ⟨x1, x2, x3⟩ := blk_cells p10'.out
    obtain ⟨y1, y2, y3⟩ := blk_cells p6'.out
    obtain ⟨u1, u2, u3⟩ := blk_cells p11'.out
    obtain ⟨v1, v2, v3⟩ := blk_cells p7'.out
    go_wp2_with fail
    refine (eqTq_ _ _ _ _ _ _ _ L rfl O5'.out.own.els P3'.out.els (by have := S1.out.1; omega)).mono ?_
    rintro e w10 ⟨rfl, h10⟩
    have Q10 := Lib.hid h10
    clear h10 x1 x2 x3 y1 y2 y3 u1 u2 u3 v1 v2 v3
    obtain ⟨u1, u2, u3⟩ := blkE p11'.out _ Q10.out
    obtain ⟨v1, v2, v3⟩ := blkE p7'.out _ Q10.out
    go_wp2_with fail
    refine (eqMsg_ _ _ _ _ _ _ _ _ _ m.body rfl (NN5'.out.rb.ext Q10.out) (PN3'.out.rb.ext Q10.out) S1.out.2.2.2).mono ?_
    rintro e w11 ⟨rfl, h11⟩
    have Q11 := Lib.hid (Ext.trans Q10.out h11)
    clear h11 u1 u2 u3 v1 v2 v3 Q10
    obtain ⟨x1, x2, x3⟩ := blkE p10'.out _ Q11.out
    go_wp2_with fail
    refine (markTqX_ _ _ _ _ (w4.heap.size + 1) w5.heap.size g5 _ _ L rfl (O5'.out.ext Q11.out) (by have := zz9.out; have := zW.out; have := Q11.out.size; omega) (by omega) (by have := S1.out.2.1; omega)).mono ?_
    rintro e w12 ⟨rfl, h12, hO12⟩
    have C12 := Lib.hid ((Chg.of_ext (fun b => (w4.heap.size + 1 ≤ b ∧ b < w5.heap.size) ∧ b ≠ g5) Q11.out).trans h12)
    have O12 := Lib.hid hO12
    clear h12 hO12 Q11 x1 x2 x3
    have P12 := Lib.hid (P3'.out.chg C12.out (fun x h1 h2 h3 => by have := z4.out; omega))
    have PN12 := Lib.hid (PN3'.out.chg C12.out (fun h1 h2 => by have := lt3.out h1; have := z4.out; omega))
    have NN12 := Lib.hid (NN5'.out.chg C12.out (fun h1 h2 => h2.2 rfl))
    have E12 := Lib.hid (C12.out.ext E9.out (fun x hx => by have := z3.out; have := z4.out; simp; omega))
    have q2 := Lib.hid (C12.out.blk p2'.out (fun hx => by have := z3.out; have := z4.out; omega))
    have q6 := Lib.hid (C12.out.blk p6'.out (fun hx => by have := z4.out; omega))
    have q7 := Lib.hid (C12.out.blk p7'.out (fun hx => by have := z4.out; omega))
    have q10 := Lib.hid (C12.out.blk p10'.out (fun hx => by omega))
    have q11 := Lib.hid (C12.out.blk p11'.out (fun hx => by omega))
    clear P3' PN3' O5' NN5' E9 p2' p6' p7' p10' p11' C12
    obtain ⟨u1, u2, u3⟩ := blk_cells q11.out
    go_wp2_with fail
    refine (mark1Msg_ _ _ _ _ _ m.body.length _ g5 _ (by have := S1.out.2.1; omega) (by have := S1.out.2.2.2; omega) NN12.out.mk).mono ?_
    rintro e w13 ⟨rfl, h13, hk13⟩
    have C13 := Lib.hid h13
    have NN13 := Lib.hid (NN12.out.marked hk13)
    clear h13 hk13 u1 u2 u3
    have O13 := Lib.hid (O12.out.chg C13.out (fun x h1 h2 h3 h4 => h3 h4.2))
    have P13 := Lib.hid (P12.out.chg C13.out (fun x h1 h2 h3 => by have := z4.out; have := z5.out; omega))
    have PN13 := Lib.hid (PN12.out.chg C13.out (fun h1 h2 => by have := lt3.out h1; have := z4.out; have := z5.out; omega))
    have E13 := Lib.hid (C13.out.ext E12.out (fun x hx => by have := z3.out; have := z4.out; have := z5.out; simp; omega))
    have r2 := Lib.hid (C13.out.blk q2.out (fun hx => by have := z3.out; have := z4.out; have := z5.out; omega))
    have r6 := Lib.hid (C13.out.blk q6.out (fun hx => by have := z4.out; have := z5.out; omega))
    have r7 := Lib.hid (C13.out.blk q7.out (fun hx => by have := z4.out; have := z5.out; omega))
    have r10 := Lib.hid (C13.out.blk q10.out (fun hx => by have := lt5.out hx.1; omega))
    have r11 := Lib.hid (C13.out.blk q11.out (fun hx => by have := lt5.out hx.1; omega))
    clear O12 P12 PN12 NN12 E12 q2 q6 q7 q10 q11 C13
    obtain ⟨x1, x2, x3⟩ := blk_cells r10.out
    go_wp2_with fail
    refine (heldTq_ _ _ _ _ _ _ L rfl O13.out.own.els (by omega) (by have := S1.out.2.1; omega)).mono ?_
    rintro e w14 ⟨rfl, h14⟩
    have Q14 := Lib.hid h14
    clear h14 x1 x2 x3
    obtain ⟨u1, u2, u3⟩ := blkE r11.out _ Q14.out
    go_wp2_with fail
    refine (held1Msg_ _ _ _ _ _ m.body.length _ _ (by have := S1.out.2.1; omega) (by have := S1.out.2.2.2; omega) (NN13.out.rb.ext Q14.out)).mono ?_
    rintro e w15 ⟨rfl, h15⟩
    have Q15 := Lib.hid (Ext.trans Q14.out h15)
    clear h15 u1 u2 u3 Q14
    obtain ⟨x1, x2, x3⟩ := blkE r2.out _ Q15.out
    go_wp2_with fail
    refine (toTq_ _ _ _ _ _ l N1.out (els_up M1.out (Ext.trans E13.out Q15.out)) L1.out).mono ?_
    rintro e w16 ⟨G16, rfl, h16, hO16⟩
    have Q16 := Lib.hid (Ext.trans Q15.out h16)
    have M16 := Lib.hid hO16.els
    clear h16 hO16 x1 x2 x3 Q15
    go_wp2_with fail
    refine (iTake _ _ _ _ _ _ l N1.out M16.out D1.out K1.out).mono ?_
    rintro e w17 ⟨Ah, ch, gh, Bh, dh, rfl, h17, hO17, hN17⟩
    rw [← hL'.out, ← hm'.out, ← ho'.out]
    rw [← hL'.out] at hO17
    rw [← hm'.out] at hN17
    have e17 := Ext.trans (Ext.alloc_ w17 (.cells #[.slice Ah L.length ch, .int .i64 d] 54)) (Ext.alloc_ _ (.cells #[.int .i64 m.to, .int .i64 m.cat, .int .i64 m.dl, .slice Bh m.body.length dh] 71))
    have Q17 := Lib.hid (Ext.trans (Ext.trans Q16.out h17) e17)
    have O17 := Lib.hid (hO17.ext e17).own.els
    have N17 := Lib.hid (hN17.ext e17).rb
    have b16 := Lib.hid (ext_blk (Ext.alloc_ _ (.cells #[.int .i64 m.to, .int .i64 m.cat, .int .i64 m.dl, .slice Bh m.body.length dh] 71)) (new_blk1 w17 #[.slice Ah L.length ch, .int .i64 d] 54))
    have b17 := Lib.hid (new_blk2 w17 (.cells #[.slice Ah L.length ch, .int .i64 d] 54) #[.int .i64 m.to, .int .i64 m.cat, .int .i64 m.dl, .slice Bh m.body.length dh] 71)
    clear h17 hO17 hN17 e17 Q16 M16
    obtain ⟨x1, x2, x3⟩ := blk_cells b16.out
    obtain ⟨y1, y2, y3⟩ := blkE r6.out _ Q17.out
    go_wp2_with fail
    generalize hW17 : (w17.alloc (.cells #[.slice Ah L.length ch, .int .i64 d] 54)).alloc (.cells #[.int .i64 m.to, .int .i64 m.cat, .int .i64 m.dl, .slice Bh m.body.length dh] 71) = W17 at *
    clear hW17
    refine (eqTq_ _ _ _ _ _ _ _ L rfl O17.out (els_up P13.out.els Q17.out) (by have := S1.out.1; omega)).mono ?_
    rintro e w18 ⟨rfl, h18⟩
    have F18 := Lib.hid h18
    clear h18 x1 x2 x3 y1 y2 y3
    obtain ⟨u1, u2, u3⟩ := blkE b17.out _ F18.out
    obtain ⟨v1, v2, v3⟩ := blkE r7.out _ (Ext.trans Q17.out F18.out)
    go_wp2_with fail
    refine (eqMsg_ _ _ _ _ _ _ _ _ _ m.body rfl (N17.out.ext F18.out) (PN13.out.rb.ext (Ext.trans Q17.out F18.out)) S1.out.2.2.2).mono ?_
    rintro e w19 ⟨rfl, h19⟩
    have Q19 := Lib.hid (Ext.trans Q17.out (Ext.trans F18.out h19))
    clear h19 u1 u2 u3 v1 v2 v3 F18 Q17
    obtain ⟨x1, x2, x3⟩ := blkE r10.out _ Q19.out
    go_wp2_with fail
    refine (heldTq_ _ _ _ _ _ _ L rfl (els_up O13.out.own.els Q19.out) (by omega) (by have := S1.out.2.1; omega)).mono ?_
    rintro e w20 ⟨rfl, h20⟩
    have Q20 := Lib.hid (Ext.trans Q19.out h20)
    clear h20 x1 x2 x3
    obtain ⟨u1, u2, u3⟩ := blkE r11.out _ Q20.out
    go_wp2_with fail
    refine (held1Msg_ _ _ _ _ _ m.body.length _ _ (by have := S1.out.2.1; omega) (by have := S1.out.2.2.2; omega) (NN13.out.rb.ext Q20.out)).mono ?_
    rintro e w21 ⟨rfl, h21⟩
    have Q21 := Lib.hid (Ext.trans Q20.out h21)
    clear h21 u1 u2 u3
    go_wp2_with fail
    go_ret
    exact ⟨rfl, Ext.trans E0.out (Ext.trans E13.out Q21.out)⟩
end Go.Proofs.Ytcjppmihmfcagaa
