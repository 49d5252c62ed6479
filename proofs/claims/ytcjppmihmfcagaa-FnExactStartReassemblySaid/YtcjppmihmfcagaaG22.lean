/- The law on a reassembly begun. -/
import Derived.Test.YtcjppmihmfcagaaNb
import Derived.Test.YtcjppmihmfcagaaSt
namespace Go.Proofs.Ytcjppmihmfcagaa
open Go.RowKit
set_option linter.unusedVariables false
set_option linter.unusedSimpArgs false
theorem walk_FnExactStartReassembly (a0 : Array Value) (a1 : Int) (w : World) (r0 : Rd Try.prog w 28 (Value.agg a0).cells.toList) (w1 : (Lit.int .i64 a1).wf = true) :
    Calls Try.prog 4 #[.agg a0, .int .i64 a1] w fun e w' => e = .returned (.bool true) ∧ Below w.heap.size w w' := by
  obtain ⟨⟨kd, fm, to, sq, fr, mo, re, du, bd⟩, ⟨A, c, hcs, hr⟩, hbm⟩ := mac_rd r0
  obtain ⟨cs⟩ := a0
  simp only [Value.cells] at hcs
  subst hcs
  clear r0 w1
  simp only [kMac] at *
  obtain ⟨n, hn1⟩ : ∃ n, bd.length = n := ⟨_, rfl⟩
  rw [hn1] at hbm ⊢
  have E0 := Lib.hid (Ext.alloc_ w (.cells #[.int .i64 kd, .int .i64 fm, .int .i64 to, .int .i64 sq, .int .i64 fr, .bool mo, .bool re, .int .i64 du, .slice A n c] 28))
  have b2 := Lib.hid (new_blk1 w #[.int .i64 kd, .int .i64 fm, .int .i64 to, .int .i64 sq, .int .i64 fr, .bool mo, .bool re, .int .i64 du, .slice A n c] 28)
  have N1 := Lib.hid hn1
  have M1 := Lib.hid (hr.ext E0.out)
  have X1 := Lib.hid hbm
  clear hn1 hbm hr
  by_cases hbig : (1048576 : Int) < (n : Int)
  · go_enter Try.func4, Try.ntmps4
    go_wp2_with fail
    refine (szMac_ _ _ _ _ _ _ _ _ _ _ _ _ _ ⟨by omega, by omega⟩ X1.out).mono ?_
    rintro e w1 ⟨rfl, h1⟩
    rw [if_pos hbig]
    go_wp2_with fail
    go_ret
    exact ⟨rfl, Ext.trans E0.out h1⟩
  · have L1 := Lib.hid (show n ≤ 1048576 by omega)
    have hnl : ¬ (1 + (n : Int) < 0) := by omega
    go_enter Try.func4, Try.ntmps4
    go_wp2_with fail
    refine (szMac_ _ _ _ _ _ _ _ _ _ _ _ _ _ ⟨by omega, by omega⟩ X1.out).mono ?_
    rintro e w1 ⟨rfl, h1⟩
    rw [if_neg (by omega)]
    have hs2 : ¬ (1048576 - (n : Int) < 0) := by omega
    have E1 := Lib.hid h1
    obtain ⟨x1, x2, x3⟩ := blkE b2.out _ h1
    clear h1 hbig
    go_wp2_with fail
    refine (toMac_ _ _ _ _ _ _ _ _ _ _ _ _ bd N1.out (M1.out.ext E1.out) L1.out).mono ?_
    rintro e w2 ⟨G2, rfl, h2, hG2, hO2⟩
    have E2 := Lib.hid (Ext.trans E1.out h2)
    have M2 := Lib.hid (NewB.of_blk (l := bd) hG2 hO2).rb
    rw [N1.out] at M2
    clear h2 hO2 x1 x2 x3 hs2 hG2
    go_wp2_with fail
    refine (sStart _ _ _ _ _ _ _ _ _ _ _ _ _ bd N1.out M2.out (by have := L1.out; omega)).mono ?_
    rintro e w3 ⟨gw, Aw, cw, rfl, h3, hO3⟩
    have e3 := Ext.alloc_ w3 (.cells #[.int .i64 fm, .int .i64 sq, .int .i64 1, .slice Aw n cw, .int .i64 a1] 31)
    have E3 := Lib.hid (Ext.trans (Ext.trans E2.out h3) e3)
    have O3 := Lib.hid (hO3.ext e3)
    have L3 := Lib.hid (hO3.lt)
    have b6 := Lib.hid (new_blk1 w3 #[.int .i64 fm, .int .i64 sq, .int .i64 1, .slice Aw n cw, .int .i64 a1] 31)
    have z3 := Lib.hid (show w.heap.size + 1 ≤ w2.heap.size ∧ w2.heap.size ≤ w3.heap.size by have := E2.out.size; have := h3.size; simp at *; omega)
    clear h3 hO3 e3 M2
    obtain ⟨x1, x2, x3⟩ := blkE b2.out _ E3.out
    go_wp2_with fail
    refine (toMac_ _ _ _ _ _ _ _ _ _ _ _ _ bd N1.out (M1.out.ext E3.out) L1.out).mono ?_
    rintro e w4 ⟨G4, rfl, h4, hG4, hO4⟩
    have e4 := Ext.alloc_ w4 (.cells #[.int .i64 kd, .int .i64 fm, .int .i64 to, .int .i64 sq, .int .i64 fr, .bool mo, .bool re, .int .i64 du, .slice (some ⟨G4, 0, none⟩) n n] 33)
    have F4 := Lib.hid (Ext.trans h4 e4)
    have E4 := Lib.hid (Ext.trans E3.out F4.out)
    have hO4' := (NewB.of_blk (l := bd) hG4 hO4)
    rw [N1.out] at hO4'
    have O4 := Lib.hid (hO4'.ext e4)
    have L4 := Lib.hid (hO4'.lt)
    have b7 := Lib.hid (new_blk1 w4 #[.int .i64 kd, .int .i64 fm, .int .i64 to, .int .i64 sq, .int .i64 fr, .bool mo, .bool re, .int .i64 du, .slice (some ⟨G4, 0, none⟩) n n] 33)
    have z4 := Lib.hid (show w3.heap.size + 1 ≤ w4.heap.size ∧ w3.heap.size + 1 ≤ G4 by have := h4.size; simp at this hG4; omega)
    clear h4 hO4 e4 x1 x2 x3 hO4' hG4
    obtain ⟨x1, x2, x3⟩ := blk_cells b7.out
    go_wp2_with fail
    refine (iStart _ _ _ _ _ _ _ _ _ _ _ _ _ bd N1.out O4.out.rb (by have := L1.out; omega)).mono ?_
    rintro e w5 ⟨gg, Ag, cg, rfl, h5, hO5⟩
    have e5 := Ext.alloc_ w5 (.cells #[.int .i64 fm, .int .i64 sq, .int .i64 1, .slice Ag n cg, .int .i64 a1] 31)
    have F5 := Lib.hid (Ext.trans h5 e5)
    have E5 := Lib.hid (Ext.trans E4.out F5.out)
    have O5 := Lib.hid (hO5.ext e5)
    have L5 := Lib.hid (hO5.lt)
    have b8 := Lib.hid (new_blk1 w5 #[.int .i64 fm, .int .i64 sq, .int .i64 1, .slice Ag n cg, .int .i64 a1] 31)
    have z5 := Lib.hid (show w4.heap.size + 1 ≤ w5.heap.size ∧ w4.heap.size + 1 ≤ gg by have := h5.size; have := hO5.2.2.1; simp at *; omega)
    clear h5 hO5 e5 x1 x2 x3
    have P3 := Lib.hid (O3.out.ext (Ext.trans F4.out F5.out))
    have P4 := Lib.hid (O4.out.ext F5.out)
    have p2 := Lib.hid (ext_blk E5.out b2.out)
    have p6 := Lib.hid (ext_blk (Ext.trans F4.out F5.out) b6.out)
    have p7 := Lib.hid (ext_blk F5.out b7.out)
    clear O3 O4 b6 b7 E1 E2 E3 E4 F4 F5
    obtain ⟨x1, x2, x3⟩ := blk_cells b8.out
    obtain ⟨y1, y2, y3⟩ := blk_cells p6.out
    go_wp2_with fail
    generalize hW5 : w5.alloc (.cells #[.int .i64 fm, .int .i64 sq, .int .i64 1, .slice Ag n cg, .int .i64 a1] 31) = W5 at *
    have zW := Lib.hid (show W5.heap.size = w5.heap.size + 1 by rw [← hW5]; simp)
    clear hW5
    refine (eqRea_ _ _ _ _ _ _ _ _ _ _ bd N1.out O5.out.rb P3.out.rb L1.out).mono ?_
    rintro e w6 ⟨rfl, h6⟩
    have Q6 := Lib.hid h6
    clear h6 x1 x2 x3 y1 y2 y3
    obtain ⟨x1, x2, x3⟩ := blkE p7.out _ Q6.out
    obtain ⟨y1, y2, y3⟩ := blkE p2.out _ Q6.out
    go_wp2_with fail
    refine wp_region_chain 5 (by kernel_rfl) (by kernel_rfl) ?_
    simp only [List.take_succ_cons, List.take_zero, List.drop_succ_cons, List.drop_zero]
    repeat (apply Chain.quiet; · (intro vs wq hEq hd; obtain ⟨hcq, hfq⟩ := bcell hEq; clear hEq hd; (try simp only [Act.put, SP.pick, SP.is, SP.box, id_eq, List.take_succ_cons, List.take_zero, List.drop_succ_cons, List.drop_zero, List.setIfInBounds_toArray, List.set_cons_zero, List.set_cons_succ]); refine growOp_go ?_; go_simp; exact ⟨Ext.refl _, rfl⟩))
    refine Chain.sp (SP.mac kd fm to sq fr mo re du n bd) ?_ ?_
    · intro vs wq hE hd
      clear hd
      (try simp only [Act.put, SP.pick, SP.is, SP.box, id_eq, List.take_succ_cons, List.take_zero, List.drop_succ_cons, List.drop_zero, List.setIfInBounds_toArray, List.set_cons_zero, List.set_cons_succ])
      refine growOp_go ?_
      go_simp
      refine (toMac_ _ _ _ _ _ _ _ _ _ _ _ _ bd N1.out (M1.out.ext (Ext.trans E5.out (Ext.trans Q6.out hE))) L1.out).mono ?_
      rintro e w6 ⟨g6, rfl, hE6, hg6, hO6⟩
      refine ⟨_, rfl, hE6, _, _, rfl, ?_⟩
      have := (NewB.of_blk (l := bd) hg6 hO6).rb
      rwa [N1.out] at this
    apply Chain.quiet
    · intro vs wq hE hd
      obtain ⟨A7, c7, e7, Q7⟩ := hd 2 (by kernel_rfl)
      have Q7' := Lib.hid Q7
      clear hd Q7
      simp only [Act.put, SP.pick, SP.is, SP.box, id_eq, List.take_succ_cons, List.take_zero, List.drop_succ_cons, List.drop_zero, List.setIfInBounds_toArray, List.set_cons_zero, List.set_cons_succ]
      rw [e7]
      refine growOp_go ?_
      clear e7
      go_simp
      refine (eqMac_ _ _ _ _ _ _ _ _ _ _ _ _ _ _ bd N1.out (P4.out.rb.ext (Ext.trans Q6.out hE)) Q7'.out L1.out).mono ?_
      rintro e w7 ⟨rfl, hb7⟩
      first | exact ⟨rfl, hb7⟩ | exact ⟨_, rfl, hb7, rfl⟩
    (apply Chain.quiet; · (intro vs wq hEq hd; obtain ⟨hcq, hfq⟩ := bcell hEq; clear hEq hd; (try simp only [Act.put, SP.pick, SP.is, SP.box, id_eq, List.take_succ_cons, List.take_zero, List.drop_succ_cons, List.drop_zero, List.setIfInBounds_toArray, List.set_cons_zero, List.set_cons_succ]); refine growOp_go ?_; go_simp; exact ⟨Ext.refl _, rfl⟩))
    refine Chain.done ?_
    intro vs w7 hE7 hd7
    simp only [Act.put, SP.pick, SP.is, SP.box, id_eq, List.take_succ_cons, List.take_zero, List.drop_succ_cons, List.drop_zero, List.setIfInBounds_toArray, List.set_cons_zero, List.set_cons_succ]
    have Q7 := Lib.hid (Ext.trans Q6.out hE7)
    clear hd7 hE7 Q6 x1 x2 x3 y1 y2 y3
    obtain ⟨x1, x2, x3⟩ := blkE p7.out _ Q7.out
    go_wp2_with fail
    refine (mark1Mac_ _ _ _ _ _ _ _ _ _ _ n _ G4 _ (by omega) (by have := L1.out; omega) (by have := (P4.out.ext Q7.out).mk; rwa [N1.out] at this)).mono ?_
    rintro e w8 ⟨rfl, h8, -⟩
    have C8 := Lib.hid ((Chg.of_ext (fun b => n ≠ 0 ∧ b = G4) Q7.out).trans h8)
    clear h8 Q7 x1 x2 x3
    have P3' := Lib.hid (P3.out.chg C8.out (fun h1 h2 => by have := L3.out h1; have := z4.out; omega))
    have O5' := Lib.hid (O5.out.chg C8.out (fun h1 h2 => by have := L4.out (by rw [N1.out]; exact h2.1); have := z5.out; omega))
    have E8 := Lib.hid (C8.out.ext E5.out (fun x hx => by have := z3.out; have := z4.out; simp; omega))
    have p2' := Lib.hid (C8.out.blk p2.out (fun hx => by have := z3.out; have := z4.out; omega))
    have p6' := Lib.hid (C8.out.blk p6.out (fun hx => by have := z4.out; omega))
    have p8' := Lib.hid (C8.out.blk b8.out (fun hx => by have := z5.out; have := L4.out (by rw [N1.out]; exact hx.1); omega))
    clear P3 O5 p2 p6 p7 b8 C8 E5 P4
    obtain ⟨x1, x2, x3⟩ := blk_cells p8'.out
    obtain ⟨y1, y2, y3⟩ := blk_cells p6'.out
    go_wp2_with fail
    refine (eqRea_ _ _ _ _ _ _ _ _ _ _ bd N1.out O5'.out.rb P3'.out.rb L1.out).mono ?_
    rintro e w9 ⟨rfl, h9⟩
    have Q9 := Lib.hid h9
    clear h9 x1 x2 x3 y1 y2 y3
    obtain ⟨x1, x2, x3⟩ := blkE p8'.out _ Q9.out
    go_wp2_with fail
    refine (mark1Rea_ _ _ _ _ _ _ n _ gg _ (by omega) (by have := L1.out; omega) (by have := (O5'.out.ext Q9.out).mk; rwa [N1.out] at this)).mono ?_
    rintro e w10 ⟨rfl, h10, hO10⟩
    have C10 := Lib.hid ((Chg.of_ext (fun b => n ≠ 0 ∧ b = gg) Q9.out).trans h10)
    have hO10' := O5'.out.marked (w' := w10) (k := 1) (by rw [N1.out]; exact hO10)
    rw [N1.out] at hO10'
    have O10 := Lib.hid hO10'
    clear h10 hO10 Q9 x1 x2 x3 hO10'
    have P10 := Lib.hid (P3'.out.chg C10.out (fun h1 h2 => by have := L3.out h1; have := z4.out; have := z5.out; omega))
    have E10 := Lib.hid (C10.out.ext E8.out (fun x hx => by have := z3.out; have := z4.out; have := z5.out; simp; omega))
    have q2 := Lib.hid (C10.out.blk p2'.out (fun hx => by have := z3.out; have := z4.out; have := z5.out; omega))
    have q6 := Lib.hid (C10.out.blk p6'.out (fun hx => by have := z4.out; have := z5.out; omega))
    have q8 := Lib.hid (C10.out.blk p8'.out (fun hx => by have := L5.out (by rw [N1.out]; exact hx.1); omega))
    clear P3' O5' p2' p6' p8' C10 E8
    obtain ⟨x1, x2, x3⟩ := blk_cells q8.out
    go_wp2_with fail
    refine (held1Rea_ _ _ _ _ _ _ n _ _ (by omega) (by have := L1.out; omega) O10.out.rb).mono ?_
    rintro e w11 ⟨rfl, h11⟩
    have Q11 := Lib.hid h11
    clear h11 x1 x2 x3
    obtain ⟨x1, x2, x3⟩ := blkE q2.out _ Q11.out
    go_wp2_with fail
    refine (toMac_ _ _ _ _ _ _ _ _ _ _ _ _ bd N1.out (M1.out.ext (Ext.trans E10.out Q11.out)) L1.out).mono ?_
    rintro e w12 ⟨G12, rfl, h12, hG12, hO12⟩
    have Q12 := Lib.hid (Ext.trans Q11.out h12)
    have M12 := Lib.hid (NewB.of_blk (l := bd) hG12 hO12).rb
    rw [N1.out] at M12
    clear h12 hO12 x1 x2 x3 Q11 hG12
    go_wp2_with fail
    refine (iStart _ _ _ _ _ _ _ _ _ _ _ _ _ bd N1.out M12.out (by have := L1.out; omega)).mono ?_
    rintro e w13 ⟨gh, Ah, ch, rfl, h13, hO13⟩
    have e13 := Ext.alloc_ w13 (.cells #[.int .i64 fm, .int .i64 sq, .int .i64 1, .slice Ah n ch, .int .i64 a1] 31)
    have Q13 := Lib.hid (Ext.trans (Ext.trans Q12.out h13) e13)
    have O13 := Lib.hid (hO13.ext e13).rb
    have b12 := Lib.hid (new_blk1 w13 #[.int .i64 fm, .int .i64 sq, .int .i64 1, .slice Ah n ch, .int .i64 a1] 31)
    clear h13 hO13 e13 Q12 M12
    obtain ⟨x1, x2, x3⟩ := blk_cells b12.out
    obtain ⟨y1, y2, y3⟩ := blkE q6.out _ Q13.out
    go_wp2_with fail
    refine (eqRea_ _ _ _ _ _ _ _ _ _ _ bd N1.out O13.out (P10.out.rb.ext Q13.out) L1.out).mono ?_
    rintro e w14 ⟨rfl, h14⟩
    have Q14 := Lib.hid (Ext.trans Q13.out h14)
    clear h14 x1 x2 x3 y1 y2 y3
    obtain ⟨x1, x2, x3⟩ := blkE q8.out _ Q14.out
    go_wp2_with fail
    refine (held1Rea_ _ _ _ _ _ _ n _ _ (by omega) (by have := L1.out; omega) (O10.out.rb.ext Q14.out)).mono ?_
    rintro e w15 ⟨rfl, h15⟩
    have Q15 := Lib.hid (Ext.trans Q14.out h15)
    clear h15 x1 x2 x3
    go_wp2_with fail
    go_ret
    exact ⟨rfl, Ext.trans E0.out (Ext.trans E10.out Q15.out)⟩
end Go.Proofs.Ytcjppmihmfcagaa
