/- The law on fragments. -/
import Derived.Test.YtcjppmihmfcagaaNb
import Derived.Test.YtcjppmihmfcagaaFrgI
namespace Go.Proofs.Ytcjppmihmfcagaa
open Go.RowKit
set_option linter.unusedVariables false
set_option linter.unusedSimpArgs false
theorem sumC_max {α : Type} {ct : α → Nat} {M : Nat} (l : List α) (h : ∀ x ∈ l, ct x ≤ M) : sumC ct l ≤ l.length * M := by
  induction l with
  | nil => simp [sumC]
  | cons x xs ih =>
    have h1 := h x (by simp)
    have h2 := ih (fun y hy => h y (by simp [hy]))
    simp only [sumC, List.map_cons, List.sum_cons, List.length_cons, Nat.succ_mul] at h2 ⊢
    omega
theorem frgL_facts (m : Mac) (t : Int) : (frgL m t).length ≤ 16 ∧ ∀ x ∈ frgL m t, x.body.length ≤ m.body.length := by
  refine ⟨?_, fun x hx => ?_⟩
  · rw [frgL_len]
    rcases fragV_cases m.body.length t with h | ⟨N, tn, h, _, _, _, _, h2, _⟩
    · rw [h]; decide
    · rw [h]; omega
  · simp only [frgL, List.mem_map] at hx
    obtain ⟨i, _, rfl⟩ := hx
    simp only [frgAt, List.length_take, List.length_drop]
    omega
theorem walk_FnExactFragments (a0 : Array Value) (a1 : Int) (w : World) (r0 : Rd Try.prog w 28 (Value.agg a0).cells.toList) (w1 : (Lit.int .i64 a1).wf = true) :
    Calls Try.prog 11 #[.agg a0, .int .i64 a1] w fun e w' => e = .returned (.bool true) ∧ Below w.heap.size w w' := by
  obtain ⟨⟨kd, fm, to, sq, fr, mo, re, du, bd⟩, ⟨A, c, hcs, hr⟩, hbm⟩ := mac_rd r0
  obtain ⟨cs⟩ := a0
  simp only [Value.cells] at hcs
  subst hcs
  clear r0 w1
  simp only [kMac] at *
  obtain ⟨n, hn1⟩ : ∃ n, bd.length = n := ⟨_, rfl⟩
  rw [hn1] at hbm ⊢
  have E0 := Lib.hid (Ext.alloc_ w (.cells #[.int .i64 kd, .int .i64 fm, .int .i64 to, .int .i64 sq, .int .i64 fr, .bool mo, .bool re, .int .i64 du, .slice A n c] 28))
  have b2 := Lib.hid (new_blk1 w #[.int .i64 kd, .int .i64 fm, .int .i64 to, .int .i64 sq, .int .i64 fr, .bool mo, .bool re, .int .i64 du, .slice A n c] 28)
  have N1 := Lib.hid hn1
  have M1 := Lib.hid (hr.ext E0.out)
  have X1 := Lib.hid hbm
  clear hn1 hbm hr
  by_cases hbig : (1048576 : Int) < (n : Int)
  · go_enter Try.func11, Try.ntmps11
    go_wp2_with fail
    refine (szMac_ _ _ _ _ _ _ _ _ _ _ _ _ _ ⟨by omega, by omega⟩ X1.out).mono ?_
    rintro e w1 ⟨rfl, h1⟩
    rw [if_pos hbig]
    go_wp2_with fail
    go_ret
    exact ⟨rfl, Ext.trans E0.out h1⟩
  · have L1 := Lib.hid (show n ≤ 1048576 by omega)
    have hnl : ¬ (1 + (n : Int) < 0) := by omega
    obtain ⟨L, hL⟩ : ∃ L, L = frgL ⟨kd, fm, to, sq, fr, mo, re, du, bd⟩ a1 := ⟨_, rfl⟩
    have hL' := Lib.hid hL
    have hfa := frgL_facts ⟨kd, fm, to, sq, fr, mo, re, du, bd⟩ a1
    rw [← hL] at hfa
    have SB : Hid (∀ m ∈ L, m.body.length ≤ 1048576) := fun m hm => by have h1 := hfa.2 m hm; have h2 := N1.out; have h3 := L1.out; simp only at h1; omega
    have S1 := Lib.hid (show L.length ≤ 16 ∧ ((sumC cMac L : Nat) : Int) ≤ 16777344 by
      refine ⟨hfa.1, ?_⟩
      have h1 := sumC_max (ct := cMac) (M := 1048584) L (fun x hx => by have := SB.out x hx; unfold cMac; omega)
      have h2 := Nat.mul_le_mul_right 1048584 hfa.1
      omega)
    clear hL hfa
    have hnL : ¬ (1 + ((sumC cMac L : Nat) : Int) < 0) := by omega
    go_enter Try.func11, Try.ntmps11
    go_wp2_with fail
    refine (szMac_ _ _ _ _ _ _ _ _ _ _ _ _ _ ⟨by omega, by omega⟩ X1.out).mono ?_
    rintro e w1 ⟨rfl, h1⟩
    rw [if_neg (by omega)]
    have hs2 : ¬ (1048576 - (n : Int) < 0) := by omega
    have E1 := Lib.hid h1
    obtain ⟨x1, x2, x3⟩ := blkE b2.out _ h1
    clear h1 hbig
    go_wp2_with fail
    refine (toMac_ _ _ _ _ _ _ _ _ _ _ _ _ bd N1.out (M1.out.ext E1.out) L1.out).mono ?_
    rintro e w2 ⟨G2, rfl, h2, hG2, hO2⟩
    have E2 := Lib.hid (Ext.trans E1.out h2)
    have M2 := Lib.hid (NewB.of_blk (l := bd) hG2 hO2).rb
    rw [N1.out] at M2
    clear h2 hO2 x1 x2 x3 hs2 hG2
    go_wp2_with fail
    refine (sFrgs _ _ _ _ _ _ _ _ _ _ _ _ bd N1.out M2.out L1.out).mono ?_
    rintro e w3 ⟨Aw, cw, rfl, h3, hO3⟩
    rw [← hL'.out]
    rw [← hL'.out] at hO3
    have E3 := Lib.hid (Ext.trans E2.out h3)
    have O3 := Lib.hid hO3
    have z3 := Lib.hid (show w.heap.size + 1 ≤ w2.heap.size ∧ w2.heap.size ≤ w3.heap.size by have := E2.out.size; have := h3.size; simp at *; omega)
    clear h3 hO3 M2
    obtain ⟨x1, x2, x3⟩ := blkE b2.out _ E3.out
    go_wp2_with fail
    refine (toMac_ _ _ _ _ _ _ _ _ _ _ _ _ bd N1.out (M1.out.ext E3.out) L1.out).mono ?_
    rintro e w4 ⟨G4, rfl, h4, hG4, hO4⟩
    have e4 := Ext.alloc_ w4 (.cells #[.int .i64 kd, .int .i64 fm, .int .i64 to, .int .i64 sq, .int .i64 fr, .bool mo, .bool re, .int .i64 du, .slice (some ⟨G4, 0, none⟩) n n] 33)
    have F4 := Lib.hid (Ext.trans h4 e4)
    have E4 := Lib.hid (Ext.trans E3.out F4.out)
    have hO4' := (NewB.of_blk (l := bd) hG4 hO4)
    rw [N1.out] at hO4'
    have O4 := Lib.hid (hO4'.ext e4)
    have L4 := Lib.hid (hO4'.lt)
    have b7 := Lib.hid (new_blk1 w4 #[.int .i64 kd, .int .i64 fm, .int .i64 to, .int .i64 sq, .int .i64 fr, .bool mo, .bool re, .int .i64 du, .slice (some ⟨G4, 0, none⟩) n n] 33)
    have z4 := Lib.hid (show w3.heap.size ≤ w4.heap.size ∧ w3.heap.size ≤ G4 from ⟨h4.size, hG4⟩)
    clear h4 hO4 e4 x1 x2 x3 hO4' hG4
    obtain ⟨x1, x2, x3⟩ := blk_cells b7.out
    go_wp2_with fail
    refine (iFrgs _ _ _ _ _ _ _ _ _ _ _ _ bd N1.out O4.out.rb L1.out).mono ?_
    rintro e w5 ⟨Ag, cg, rfl, h5, hO5⟩
    rw [← hL'.out]
    rw [← hL'.out] at hO5
    have F5 := Lib.hid h5
    have E5 := Lib.hid (Ext.trans E4.out F5.out)
    have O5 := Lib.hid hO5
    have z5 := Lib.hid (show w4.heap.size + 1 ≤ w5.heap.size by have := h5.size; simpa using this)
    simp only [World.size_alloc] at O5
    clear h5 hO5 x1 x2 x3
    have P3 := Lib.hid (O3.out.ext (Ext.trans F4.out F5.out))
    have P4 := Lib.hid (O4.out.ext F5.out)
    have p2 := Lib.hid (ext_blk E5.out b2.out)
    have p7 := Lib.hid (ext_blk F5.out b7.out)
    clear O3 O4 b7 E1 E2 E3 E4 F4 F5
    go_wp2_with fail
    refine (eqMacS_ _ _ _ _ _ _ L rfl O5.out.els P3.out.els SB.out (by have := S1.out.1; omega)).mono ?_
    rintro e w6 ⟨rfl, h6⟩
    have Q6 := Lib.hid h6
    clear h6
    obtain ⟨x1, x2, x3⟩ := blkE p7.out _ Q6.out
    obtain ⟨y1, y2, y3⟩ := blkE p2.out _ Q6.out
    go_wp2_with fail
    refine wp_region_chain 5 (by kernel_rfl) (by kernel_rfl) ?_
    simp only [List.take_succ_cons, List.take_zero, List.drop_succ_cons, List.drop_zero]
    repeat (apply Chain.quiet; · (intro vs wq hEq hd; obtain ⟨hcq, hfq⟩ := bcell hEq; clear hEq hd; (try simp only [Act.put, SP.pick, SP.is, SP.box, id_eq, List.take_succ_cons, List.take_zero, List.drop_succ_cons, List.drop_zero, List.setIfInBounds_toArray, List.set_cons_zero, List.set_cons_succ]); refine growOp_go ?_; go_simp; exact ⟨Ext.refl _, rfl⟩))
    refine Chain.sp (SP.macN kd fm to sq fr mo re du n bd) ?_ ?_
    · intro vs wq hE hd
      clear hd
      (try simp only [Act.put, SP.pick, SP.is, SP.box, id_eq, List.take_succ_cons, List.take_zero, List.drop_succ_cons, List.drop_zero, List.setIfInBounds_toArray, List.set_cons_zero, List.set_cons_succ])
      refine growOp_go ?_
      go_simp
      refine (toMac_ _ _ _ _ _ _ _ _ _ _ _ _ bd N1.out (M1.out.ext (Ext.trans E5.out (Ext.trans Q6.out hE))) L1.out).mono ?_
      rintro e w6 ⟨g6, rfl, hE6, hg6, hO6⟩
      refine ⟨_, rfl, hE6, _, _, rfl, ?_⟩
      have := (NewB.of_blk (l := bd) hg6 hO6).rb
      rwa [N1.out] at this
    apply Chain.quiet
    · intro vs wq hE hd
      obtain ⟨A7, c7, e7, Q7⟩ := hd 2 (by kernel_rfl)
      have Q7' := Lib.hid Q7
      clear hd Q7
      simp only [Act.put, SP.pick, SP.is, SP.box, id_eq, List.take_succ_cons, List.take_zero, List.drop_succ_cons, List.drop_zero, List.setIfInBounds_toArray, List.set_cons_zero, List.set_cons_succ]
      rw [e7]
      refine growOp_go ?_
      clear e7
      go_simp
      refine (eqMac_ _ _ _ _ _ _ _ _ _ _ _ _ _ _ bd N1.out (P4.out.rb.ext (Ext.trans Q6.out hE)) Q7'.out L1.out).mono ?_
      rintro e w7 ⟨rfl, hb7⟩
      first | exact ⟨rfl, hb7⟩ | exact ⟨_, rfl, hb7, rfl⟩
    (apply Chain.quiet; · (intro vs wq hEq hd; obtain ⟨hcq, hfq⟩ := bcell hEq; clear hEq hd; (try simp only [Act.put, SP.pick, SP.is, SP.box, id_eq, List.take_succ_cons, List.take_zero, List.drop_succ_cons, List.drop_zero, List.setIfInBounds_toArray, List.set_cons_zero, List.set_cons_succ]); refine growOp_go ?_; go_simp; exact ⟨Ext.refl _, rfl⟩))
    refine Chain.done ?_
    intro vs w7 hE7 hd7
    simp only [Act.put, SP.pick, SP.is, SP.box, id_eq, List.take_succ_cons, List.take_zero, List.drop_succ_cons, List.drop_zero, List.setIfInBounds_toArray, List.set_cons_zero, List.set_cons_succ]
    have Q7 := Lib.hid (Ext.trans Q6.out hE7)
    clear hd7 hE7 Q6 x1 x2 x3 y1 y2 y3
    obtain ⟨x1, x2, x3⟩ := blkE p7.out _ Q7.out
    go_wp2_with fail
    refine (mark1Mac_ _ _ _ _ _ _ _ _ _ _ n _ G4 _ (by omega) (by have := L1.out; omega) (by have := (P4.out.ext Q7.out).mk; rwa [N1.out] at this)).mono ?_
    rintro e w8 ⟨rfl, h8, -⟩
    have C8 := Lib.hid ((Chg.of_ext (fun b => n ≠ 0 ∧ b = G4) Q7.out).trans h8)
    clear h8 Q7 x1 x2 x3
    have P3' := Lib.hid (P3.out.chg C8.out (fun x h1 h2 h3 => by have := z4.out; omega))
    have O5' := Lib.hid (O5.out.chg C8.out (fun x h1 h2 h3 => by have := L4.out (by rw [N1.out]; exact h3.1); omega))
    have E8 := Lib.hid (C8.out.ext E5.out (fun x hx => by have := z3.out; have := z4.out; simp; omega))
    have p2' := Lib.hid (C8.out.blk p2.out (fun hx => by have := z3.out; have := z4.out; omega))
    clear P3 O5 p2 p7 C8 E5 P4
    go_wp2_with fail
    refine (eqMacS_ _ _ _ _ _ _ L rfl O5'.out.els P3'.out.els SB.out (by have := S1.out.1; omega)).mono ?_
    rintro e w9 ⟨rfl, h9⟩
    have Q9 := Lib.hid h9
    clear h9
    go_wp2_with fail
    refine (markMacS_ _ _ _ _ (w4.heap.size + 1) w5.heap.size _ L rfl (O5'.out.ext Q9.out) (by omega) (by have := S1.out.2; omega)).mono ?_
    rintro e w10 ⟨rfl, h10, -, hO10⟩
    have C10 := Lib.hid ((Chg.of_ext (fun b => w4.heap.size + 1 ≤ b ∧ b < w5.heap.size) Q9.out).trans h10)
    have O10 := Lib.hid hO10
    clear h10 hO10 Q9
    have P10 := Lib.hid (P3'.out.chg C10.out (fun x h1 h2 h3 => by have := z4.out; omega))
    have E10 := Lib.hid (C10.out.ext E8.out (fun x hx => by have := z3.out; have := z4.out; simp; omega))
    have q2 := Lib.hid (C10.out.blk p2'.out (fun hx => by have := z3.out; have := z4.out; omega))
    clear P3' O5' p2' C10 E8
    go_wp2_with fail
    refine (heldMacS_ _ _ _ _ _ L rfl O10.out.els (by omega) (by have := S1.out.2; omega)).mono ?_
    rintro e w11 ⟨rfl, h11⟩
    have Q11 := Lib.hid h11
    clear h11
    obtain ⟨x1, x2, x3⟩ := blkE q2.out _ Q11.out
    go_wp2_with fail
    refine (toMac_ _ _ _ _ _ _ _ _ _ _ _ _ bd N1.out (M1.out.ext (Ext.trans E10.out Q11.out)) L1.out).mono ?_
    rintro e w12 ⟨G12, rfl, h12, hG12, hO12⟩
    have Q12 := Lib.hid (Ext.trans Q11.out h12)
    have M12 := Lib.hid (NewB.of_blk (l := bd) hG12 hO12).rb
    rw [N1.out] at M12
    clear h12 hO12 x1 x2 x3 Q11 hG12
    go_wp2_with fail
    refine (iFrgs _ _ _ _ _ _ _ _ _ _ _ _ bd N1.out M12.out L1.out).mono ?_
    rintro e w13 ⟨Ah, ch, rfl, h13, hO13⟩
    rw [← hL'.out]
    rw [← hL'.out] at hO13
    have Q13 := Lib.hid (Ext.trans Q12.out h13)
    have O13 := Lib.hid hO13.els
    clear h13 hO13 Q12 M12
    go_wp2_with fail
    refine (eqMacS_ _ _ _ _ _ _ L rfl O13.out (els_up P10.out.els Q13.out) SB.out (by have := S1.out.1; omega)).mono ?_
    rintro e w14 ⟨rfl, h14⟩
    have Q14 := Lib.hid (Ext.trans Q13.out h14)
    clear h14
    go_wp2_with fail
    refine (heldMacS_ _ _ _ _ _ L rfl (els_up O10.out.els Q14.out) (by omega) (by have := S1.out.2; omega)).mono ?_
    rintro e w15 ⟨rfl, h15⟩
    have Q15 := Lib.hid (Ext.trans Q14.out h15)
    clear h15
    go_wp2_with fail
    go_ret
    exact ⟨rfl, Ext.trans E0.out (Ext.trans E10.out Q15.out)⟩
end Go.Proofs.Ytcjppmihmfcagaa
