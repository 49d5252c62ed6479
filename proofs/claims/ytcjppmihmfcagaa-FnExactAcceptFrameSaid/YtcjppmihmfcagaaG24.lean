/- The law on a frame accepted. -/
import Derived.Test.YtcjppmihmfcagaaNb
import Derived.Test.YtcjppmihmfcagaaAcc
namespace Go.Proofs.Ytcjppmihmfcagaa
open Go.RowKit
set_option linter.unusedVariables false
set_option linter.unusedSimpArgs false
/-- A list of seen frames that was copied, or that a function of the program returned. -/
def SP.seenC (n : Nat) (l : List Seen) : SP :=
  { p := fun v w => ∃ A c, v = .slice A n c ∧ Els w A 4 (kE kSeen) l ∧ (A = none → c = 0)
    st := fun v w w' hE ⟨A, c, h1, h2, h3⟩ => ⟨A, c, h1, els_up h2 hE, h3⟩ }
def SP.seenO (B n : Nat) (l : List Seen) : SP :=
  { p := fun v w => ∃ A c C, v = .slice A n c ∧ Own kSeen w B C A l ∧ C ≤ w.heap.size
    st := fun v w w' hE ⟨A, c, C, h1, h2, h3⟩ => ⟨A, c, C, h1, h2.ext hE, Nat.le_trans h3 hE.size⟩ }
def SP.accO (B n : Nat) (l : List Seen) (q : Bool) : SP :=
  { p := fun v w => ∃ A c C, v = .tuple #[.slice A n c, .bool q] ∧ Own kSeen w B C A l ∧ C ≤ w.heap.size
    st := fun v w w' hE ⟨A, c, C, h1, h2, h3⟩ => ⟨A, c, C, h1, h2.ext hE, Nat.le_trans h3 hE.size⟩ }
def SP.accE (n : Nat) (l : List Seen) (q : Bool) : SP :=
  { p := fun v w => ∃ A c, v = .tuple #[.slice A n c, .bool q] ∧ Els w A 4 (kE kSeen) l
    st := fun v w w' hE ⟨A, c, h1, h2⟩ => ⟨A, c, h1, els_up h2 hE⟩ }
set_option maxHeartbeats 2000000 in
theorem walk_FnExactAcceptFrame (a0 : Option Addr) (n0 c0 : Nat) (a1 : Array Value) (a2 : Int) (w : World) (r0 : Rd Try.prog w 60 [.slice a0 n0 c0]) (r1 : Rd Try.prog w 28 (Value.agg a1).cells.toList) (w2 : (Lit.int .i64 a2).wf = true) :
    Calls Try.prog 8 #[.slice a0 n0 c0, .agg a1, .int .i64 a2] w fun e w' => e = .returned (.bool true) ∧ Below w.heap.size w w' := by
  obtain ⟨l, hn, hM, hm⟩ := view_seen r0
  obtain ⟨⟨kd, fm, to, sq, fr, mo, re, du, bd⟩, ⟨A, c, hcs, hr⟩, hbm⟩ := mac_rd r1
  obtain ⟨cs⟩ := a1
  simp only [Value.cells] at hcs
  subst hcs
  clear r0 r1 w2
  simp only [kMac] at *
  obtain ⟨n, hn1⟩ : ∃ n, bd.length = n := ⟨_, rfl⟩
  rw [hn1] at hbm ⊢
  have E0 := Lib.hid (Ext.alloc_ w (.cells #[.int .i64 kd, .int .i64 fm, .int .i64 to, .int .i64 sq, .int .i64 fr, .bool mo, .bool re, .int .i64 du, .slice A n c] 28))
  have b2 := Lib.hid (new_blk1 w #[.int .i64 kd, .int .i64 fm, .int .i64 to, .int .i64 sq, .int .i64 fr, .bool mo, .bool re, .int .i64 du, .slice A n c] 28)
  have N1 := Lib.hid hn1
  have N0 := Lib.hid hn
  have M1 := Lib.hid (hr.ext E0.out)
  have M0 := Lib.hid (els_up hM E0.out)
  have X1 := Lib.hid hbm
  have X0 := Lib.hid hm
  clear hn hn1 hbm hr hM hm
  by_cases hbig : (1048576 : Int) < (n0 : Int)
  · go_enter Try.func8, Try.ntmps8
    go_wp2_with fail
    refine (szSeenS_ _ _ _ _ ⟨by omega, by omega⟩ X0.out _).mono ?_
    rintro e w1 ⟨rfl, rfl⟩
    rw [if_pos hbig]
    go_wp2_with fail
    go_ret
    exact ⟨rfl, E0.out⟩
  · by_cases hbig2 : (1048576 : Int) - n0 < (n : Int)
    · go_enter Try.func8, Try.ntmps8
      go_wp2_with fail
      refine (szSeenS_ _ _ _ _ ⟨by omega, by omega⟩ X0.out _).mono ?_
      rintro e w1 ⟨rfl, rfl⟩
      rw [if_neg (by omega)]
      have hs2 : ¬ (1048576 - (n0 : Int) < 0) := by omega
      go_wp2_with fail
      refine (szMac_ _ _ _ _ _ _ _ _ _ _ _ _ _ ⟨by omega, by omega⟩ X1.out).mono ?_
      rintro e w2 ⟨rfl, h2⟩
      rw [if_pos hbig2]
      clear hs2
      go_wp2_with fail
      go_ret
      exact ⟨rfl, Ext.trans E0.out h2⟩
    · have L0 := Lib.hid (show n0 ≤ 1048576 by omega)
      have L1 := Lib.hid (show n ≤ 1048576 by omega)
      obtain ⟨L, hL⟩ : ∃ L, L = accL l fm sq fr re a2 := ⟨_, rfl⟩
      have hL' := Lib.hid hL
      obtain ⟨q, hq⟩ : ∃ q, (!dupB l fm sq fr re a2) = q := ⟨_, rfl⟩
      have hQ := Lib.hid hq
      clear hq
      have S1 := Lib.hid (show L.length ≤ 1048577 ∧ ((sumC cSeen L : Nat) : Int) ≤ 4194308 ∧ ((sumC cSeen l : Nat) : Int) ≤ 4194304 by
        have h1 := accL_len l fm sq fr re a2
        rw [← hL] at h1
        have h2 := sumC_seen L
        have h3 := sumC_seen l
        have h6 := L0.out
        have h7 := N0.out
        refine ⟨by omega, by omega, by omega⟩)
      clear hL
      have hnl : ¬ (1 + ((sumC cSeen l : Nat) : Int) + (n : Int) < 0) := by omega
      have hnL : ¬ (1 + ((sumC cSeen L : Nat) : Int) < 0) := by omega
      go_enter Try.func8, Try.ntmps8
      go_wp2_with fail
      refine (szSeenS_ _ _ _ _ ⟨by omega, by omega⟩ X0.out _).mono ?_
      rintro e w1 ⟨rfl, rfl⟩
      rw [if_neg (by omega)]
      have hs2 : ¬ (1048576 - (n0 : Int) < 0) := by omega
      go_wp2_with fail
      refine (szMac_ _ _ _ _ _ _ _ _ _ _ _ _ _ ⟨by omega, by omega⟩ X1.out).mono ?_
      rintro e w2 ⟨rfl, h2⟩
      rw [if_neg (by omega)]
      have hs3 : ¬ (1048576 - (n0 : Int) - (n : Int) < 0) := by omega
      have E2 := Lib.hid h2
      obtain ⟨x1, x2, x3⟩ := blkE b2.out _ h2
      clear h2 hs2
      go_wp2_with fail
      clear hs3 hbig hbig2
      refine wp_region_chain 11 (by kernel_rfl) (by kernel_rfl) ?_
      simp only [List.take_succ_cons, List.take_zero, List.drop_succ_cons, List.drop_zero]
      (apply Chain.quiet; · (intro vs wq hEq hd; obtain ⟨hcq, hfq⟩ := bcell hEq; clear hEq hd; (try simp only [Act.put, SP.pick, SP.is, SP.box, id_eq, List.take_succ_cons, List.take_zero, List.drop_succ_cons, List.drop_zero, List.setIfInBounds_toArray, List.set_cons_zero, List.set_cons_succ]); refine growOp_go ?_; go_simp; exact ⟨Ext.refl _, rfl⟩))
      refine Chain.sp (SP.seenC n0 l) ?_ ?_
      · intro vs wq hE hd
        clear hd
        (try simp only [Act.put, SP.pick, SP.is, SP.box, id_eq, List.take_succ_cons, List.take_zero, List.drop_succ_cons, List.drop_zero, List.setIfInBounds_toArray, List.set_cons_zero, List.set_cons_succ])
        refine growOp_go ?_
        go_simp
        refine (toSeenS_ _ _ _ _ l N0.out (els_up M0.out (Ext.trans E2.out hE)) L0.out).mono ?_
        rintro e w6 ⟨rfl, hE6, hO6⟩
        exact ⟨_, rfl, hE6, _, _, rfl, hO6.els, fun h => by cases h⟩
      (apply Chain.quiet; · (intro vs wq hEq hd; obtain ⟨hcq, hfq⟩ := bcell hEq; clear hEq hd; (try simp only [Act.put, SP.pick, SP.is, SP.box, id_eq, List.take_succ_cons, List.take_zero, List.drop_succ_cons, List.drop_zero, List.setIfInBounds_toArray, List.set_cons_zero, List.set_cons_succ]); refine growOp_go ?_; go_simp; exact ⟨Ext.refl _, rfl⟩))
      refine Chain.sp (SP.macN kd fm to sq fr mo re du n bd) ?_ ?_
      · intro vs wq hE hd
        clear hd
        (try simp only [Act.put, SP.pick, SP.is, SP.box, id_eq, List.take_succ_cons, List.take_zero, List.drop_succ_cons, List.drop_zero, List.setIfInBounds_toArray, List.set_cons_zero, List.set_cons_succ])
        refine growOp_go ?_
        go_simp
        refine (toMac_ _ _ _ _ _ _ _ _ _ _ _ _ bd N1.out (M1.out.ext (Ext.trans E2.out hE)) L1.out).mono ?_
        rintro e w6 ⟨g6, rfl, hE6, hg6, hO6⟩
        refine ⟨_, rfl, hE6, _, _, rfl, ?_⟩
        have := (NewB.of_blk (l := bd) hg6 hO6).rb
        rwa [N1.out] at this
      (apply Chain.quiet; · (intro vs wq hEq hd; obtain ⟨hcq, hfq⟩ := bcell hEq; clear hEq hd; (try simp only [Act.put, SP.pick, SP.is, SP.box, id_eq, List.take_succ_cons, List.take_zero, List.drop_succ_cons, List.drop_zero, List.setIfInBounds_toArray, List.set_cons_zero, List.set_cons_succ]); refine growOp_go ?_; go_simp; exact ⟨Ext.refl _, rfl⟩))
      refine Chain.sp (SP.accO w2.heap.size L.length L q) ?_ ?_
      · intro vs wq hE hd
        obtain ⟨A7, c7, e7, Q7, Z7⟩ := hd 1 (by kernel_rfl)
        obtain ⟨A8, c8, e8, Q8⟩ := hd 3 (by kernel_rfl)
        have Q7' := Lib.hid Q7
        have Z7' := Lib.hid Z7
        have hz := Lib.hid hE.size
        clear hd Q7 Q8 Z7
        simp only [Act.put, SP.pick, SP.is, SP.box, id_eq, List.take_succ_cons, List.take_zero, List.drop_succ_cons, List.drop_zero, List.setIfInBounds_toArray, List.set_cons_zero, List.set_cons_succ]
        rw [e7, e8]
        refine growOp_go ?_
        clear e7 e8
        go_simp
        refine (sAcc _ _ _ _ _ _ _ _ _ _ _ _ _ _ _ _ l N0.out Q7'.out Z7'.out L0.out).mono ?_
        rintro e w6 ⟨A6, c6, rfl, hE6, hO6⟩
        rw [← hL'.out] at hO6
        refine ⟨_, rfl, hE6, A6, c6, w6.heap.size, by rw [hL'.out, hQ.out], hO6.mono hz.out (Nat.le_refl _), Nat.le_refl _⟩
      refine Chain.sp (SP.accO w2.heap.size L.length L q) ?_ ?_
      · intro vs wq hE hd
        obtain ⟨A7, c7, C7, e7, O7, Z7⟩ := hd 5 (by kernel_rfl)
        have O7' := Lib.hid O7
        have Z7' := Lib.hid Z7
        clear hd O7 Z7
        simp only [Act.put, SP.pick, SP.is, SP.box, id_eq, List.take_succ_cons, List.take_zero, List.drop_succ_cons, List.drop_zero, List.setIfInBounds_toArray, List.set_cons_zero, List.set_cons_succ]
        rw [e7]
        refine growOp_go ?_
        clear e7
        go_simp
        exact ⟨Ext.refl _, _, _, _, rfl, O7'.out, Z7'.out⟩
      refine Chain.sp (SP.seenO w2.heap.size L.length L) ?_ ?_
      · intro vs wq hE hd
        obtain ⟨A7, c7, C7, e7, O7, Z7⟩ := hd 6 (by kernel_rfl)
        have O7' := Lib.hid O7
        have Z7' := Lib.hid Z7
        clear hd O7 Z7
        simp only [Act.put, SP.pick, SP.is, SP.box, id_eq, List.take_succ_cons, List.take_zero, List.drop_succ_cons, List.drop_zero, List.setIfInBounds_toArray, List.set_cons_zero, List.set_cons_succ]
        rw [e7]
        refine growOp_go ?_
        clear e7
        go_simp
        exact ⟨Ext.refl _, _, _, _, rfl, O7'.out, Z7'.out⟩
      apply Chain.quiet
      · intro vs wq hE hd
        obtain ⟨A7, c7, C7, e7, O7, Z7⟩ := hd 6 (by kernel_rfl)
        clear hd O7 Z7
        simp only [Act.put, SP.pick, SP.is, SP.box, id_eq, List.take_succ_cons, List.take_zero, List.drop_succ_cons, List.drop_zero, List.setIfInBounds_toArray, List.set_cons_zero, List.set_cons_succ]
        rw [e7]
        refine growOp_go ?_
        clear e7
        go_simp
        exact ⟨Ext.refl _, rfl⟩
      refine Chain.sp (SP.seenO w2.heap.size L.length L) ?_ ?_
      · intro vs wq hE hd
        obtain ⟨A7, c7, C7, e7, O7, Z7⟩ := hd 7 (by kernel_rfl)
        have O7' := Lib.hid O7
        have Z7' := Lib.hid Z7
        clear hd O7 Z7
        simp only [Act.put, SP.pick, SP.is, SP.box, id_eq, List.take_succ_cons, List.take_zero, List.drop_succ_cons, List.drop_zero, List.setIfInBounds_toArray, List.set_cons_zero, List.set_cons_succ]
        rw [e7]
        refine growOp_go ?_
        clear e7
        go_simp
        exact ⟨Ext.refl _, _, _, _, rfl, O7'.out, Z7'.out⟩
      (apply Chain.quiet; · (intro vs wq hEq hd; obtain ⟨hcq, hfq⟩ := bcell hEq; clear hEq hd; (try simp only [Act.put, SP.pick, SP.is, SP.box, id_eq, List.take_succ_cons, List.take_zero, List.drop_succ_cons, List.drop_zero, List.setIfInBounds_toArray, List.set_cons_zero, List.set_cons_succ]); refine growOp_go ?_; go_simp; exact ⟨Ext.refl _, rfl⟩))
      refine Chain.done ?_
      intro vs w3 hE3 hd3
      simp only [Act.put, SP.pick, SP.is, SP.box, id_eq, List.take_succ_cons, List.take_zero, List.drop_succ_cons, List.drop_zero, List.setIfInBounds_toArray, List.set_cons_zero, List.set_cons_succ]
      obtain ⟨Aw, cw, C3, e3, O3, Z3⟩ := hd3 9
      rw [e3]
      simp only [SP.seenO, SP.accO, id_eq]
      have E3 := Lib.hid (Ext.trans E2.out hE3)
      have W3 := Lib.hid O3
      have z3 := Lib.hid (show w.heap.size + 1 ≤ w2.heap.size ∧ w2.heap.size ≤ w3.heap.size ∧ C3 ≤ w3.heap.size by have := E2.out.size; have := hE3.size; simp at *; omega)
      clear hd3 hE3 O3 Z3 e3 x1 x2 x3
      go_wp2_with fail
      refine (toSeenS_ _ _ _ _ l N0.out (els_up M0.out E3.out) L0.out).mono ?_
      rintro e w4 ⟨rfl, h4, hO4⟩
      have F4 := Lib.hid h4
      have E4 := Lib.hid (Ext.trans E3.out h4)
      have O4 := Lib.hid hO4
      have z4 := Lib.hid h4.size
      clear h4 hO4
      obtain ⟨x1, x2, x3⟩ := blkE b2.out _ E4.out
      go_wp2_with fail
      refine (toMac_ _ _ _ _ _ _ _ _ _ _ _ _ bd N1.out (M1.out.ext E4.out) L1.out).mono ?_
      rintro e w5 ⟨G4, rfl, h5, hG5, hO5⟩
      have e5 := Ext.alloc_ w5 (.cells #[.int .i64 kd, .int .i64 fm, .int .i64 to, .int .i64 sq, .int .i64 fr, .bool mo, .bool re, .int .i64 du, .slice (some ⟨G4, 0, none⟩) n n] 33)
      have F5 := Lib.hid (Ext.trans h5 e5)
      have E5 := Lib.hid (Ext.trans E4.out F5.out)
      have hO5' := (NewB.of_blk (l := bd) hG5 hO5)
      rw [N1.out] at hO5'
      have O5 := Lib.hid (hO5'.ext e5)
      have L5 := Lib.hid (hO5'.lt)
      have b7 := Lib.hid (new_blk1 w5 #[.int .i64 kd, .int .i64 fm, .int .i64 to, .int .i64 sq, .int .i64 fr, .bool mo, .bool re, .int .i64 du, .slice (some ⟨G4, 0, none⟩) n n] 33)
      have z5 := Lib.hid (show w4.heap.size ≤ w5.heap.size ∧ w4.heap.size ≤ G4 from ⟨h5.size, hG5⟩)
      clear h5 hO5 e5 x1 x2 x3 hO5' hG5
      obtain ⟨x1, x2, x3⟩ := blk_cells b7.out
      go_wp2_with fail
      refine (iAcc _ _ _ _ _ _ _ _ _ _ _ _ _ _ _ _ l N0.out (els_up O4.out.els F5.out) L0.out).mono ?_
      rintro e w6 ⟨Ag, cg, rfl, h6, hO6⟩
      rw [← hL'.out] at hO6 ⊢
      rw [hQ.out]
      have F6 := Lib.hid h6
      have E6 := Lib.hid (Ext.trans E5.out h6)
      have O6 := Lib.hid hO6
      have z6 := Lib.hid (show w5.heap.size + 1 ≤ w6.heap.size by have := h6.size; simpa using this)
      have P3 := Lib.hid (W3.out.ext (Ext.trans F4.out (Ext.trans F5.out F6.out)))
      have P4 := Lib.hid (O4.out.ext (Ext.trans F5.out F6.out))
      have P5 := Lib.hid (O5.out.ext F6.out)
      have p2 := Lib.hid (ext_blk E6.out b2.out)
      have p7 := Lib.hid (ext_blk F6.out b7.out)
      simp only [World.size_alloc] at O6
      clear h6 hO6 W3 O4 O5 F4 F5 F6 E2 E3 E4 E5 b7 x1 x2 x3
      go_wp2_with fail
      refine (eqSeenS_ _ _ _ _ _ _ L rfl O6.out.els P3.out.els S1.out.1).mono ?_
      rintro e w7 ⟨rfl, h7⟩
      have Q7 := Lib.hid h7
      clear h7
      go_wp2_with fail
      refine (toSeenS_ _ _ _ _ l N0.out (els_up M0.out (Ext.trans E6.out Q7.out)) L0.out).mono ?_
      rintro e w8 ⟨rfl, h8, hO8⟩
      have Q8 := Lib.hid (Ext.trans Q7.out h8)
      have M8 := Lib.hid hO8.els
      clear h8 hO8 Q7
      go_wp2_with fail
      refine (eqSeenS_ _ _ _ _ _ _ l N0.out (els_up P4.out.els Q8.out) M8.out (by have := L0.out; omega)).mono ?_
      rintro e w9 ⟨rfl, h9⟩
      have Q9 := Lib.hid (Ext.trans Q8.out h9)
      clear h9 Q8 M8
      obtain ⟨x1, x2, x3⟩ := blkE p7.out _ Q9.out
      obtain ⟨y1, y2, y3⟩ := blkE p2.out _ Q9.out
      go_wp2_with fail
      refine wp_region_chain 5 (by kernel_rfl) (by kernel_rfl) ?_
      simp only [List.take_succ_cons, List.take_zero, List.drop_succ_cons, List.drop_zero]
      repeat (apply Chain.quiet; · (intro vs wq hEq hd; obtain ⟨hcq, hfq⟩ := bcell hEq; clear hEq hd; (try simp only [Act.put, SP.pick, SP.is, SP.box, id_eq, List.take_succ_cons, List.take_zero, List.drop_succ_cons, List.drop_zero, List.setIfInBounds_toArray, List.set_cons_zero, List.set_cons_succ]); refine growOp_go ?_; go_simp; exact ⟨Ext.refl _, rfl⟩))
      refine Chain.sp (SP.macN kd fm to sq fr mo re du n bd) ?_ ?_
      · intro vs wq hE hd
        clear hd
        (try simp only [Act.put, SP.pick, SP.is, SP.box, id_eq, List.take_succ_cons, List.take_zero, List.drop_succ_cons, List.drop_zero, List.setIfInBounds_toArray, List.set_cons_zero, List.set_cons_succ])
        refine growOp_go ?_
        go_simp
        refine (toMac_ _ _ _ _ _ _ _ _ _ _ _ _ bd N1.out (M1.out.ext (Ext.trans E6.out (Ext.trans Q9.out hE))) L1.out).mono ?_
        rintro e w6 ⟨g6, rfl, hE6, hg6, hO6⟩
        refine ⟨_, rfl, hE6, _, _, rfl, ?_⟩
        have := (NewB.of_blk (l := bd) hg6 hO6).rb
        rwa [N1.out] at this
      apply Chain.quiet
      · intro vs wq hE hd
        obtain ⟨A7, c7, e7, Q7⟩ := hd 2 (by kernel_rfl)
        have Q7' := Lib.hid Q7
        clear hd Q7
        simp only [Act.put, SP.pick, SP.is, SP.box, id_eq, List.take_succ_cons, List.take_zero, List.drop_succ_cons, List.drop_zero, List.setIfInBounds_toArray, List.set_cons_zero, List.set_cons_succ]
        rw [e7]
        refine growOp_go ?_
        clear e7
        go_simp
        refine (eqMac_ _ _ _ _ _ _ _ _ _ _ _ _ _ _ bd N1.out (P5.out.rb.ext (Ext.trans Q9.out hE)) Q7'.out L1.out).mono ?_
        rintro e w7 ⟨rfl, hb7⟩
        first | exact ⟨rfl, hb7⟩ | exact ⟨_, rfl, hb7, rfl⟩
      (apply Chain.quiet; · (intro vs wq hEq hd; obtain ⟨hcq, hfq⟩ := bcell hEq; clear hEq hd; (try simp only [Act.put, SP.pick, SP.is, SP.box, id_eq, List.take_succ_cons, List.take_zero, List.drop_succ_cons, List.drop_zero, List.setIfInBounds_toArray, List.set_cons_zero, List.set_cons_succ]); refine growOp_go ?_; go_simp; exact ⟨Ext.refl _, rfl⟩))
      refine Chain.done ?_
      intro vs w7 hE7 hd7
      simp only [Act.put, SP.pick, SP.is, SP.box, id_eq, List.take_succ_cons, List.take_zero, List.drop_succ_cons, List.drop_zero, List.setIfInBounds_toArray, List.set_cons_zero, List.set_cons_succ]
      have Q10 := Lib.hid (Ext.trans Q9.out hE7)
      clear hd7 hE7 Q9 x1 x2 x3 y1 y2 y3
      go_wp2_with fail
      refine (markSeenS_ _ _ _ _ w3.heap.size w4.heap.size _ l N0.out (P4.out.ext Q10.out) (by omega) (by have := S1.out.2.2; omega)).mono ?_
      rintro e w11 ⟨rfl, h11, -, -⟩
      have C11 := Lib.hid ((Chg.of_ext (fun b => w3.heap.size ≤ b ∧ b < w4.heap.size) Q10.out).trans h11)
      clear h11 Q10
      have P3' := Lib.hid (P3.out.chg C11.out (fun x h1 h2 h3 => by have := z3.out; omega))
      have P5' := Lib.hid (P5.out.chg C11.out (fun h1 h2 => by have := z5.out; omega))
      have O6' := Lib.hid (O6.out.chg C11.out (fun x h1 h2 h3 => by have := z5.out; omega))
      have E11 := Lib.hid (C11.out.ext E6.out (fun x hx => by have := z3.out; simp; omega))
      have p2' := Lib.hid (C11.out.blk p2.out (fun hx => by have := z3.out; omega))
      have p7' := Lib.hid (C11.out.blk p7.out (fun hx => by have := z5.out; omega))
      clear P3 P5 O6 E6 p2 p7 C11 P4
      obtain ⟨x1, x2, x3⟩ := blk_cells p7'.out
      go_wp2_with fail
      refine (mark1Mac_ _ _ _ _ _ _ _ _ _ _ n _ G4 _ (by have := S1.out.2.2; omega) (by have := L1.out; omega) (by have := P5'.out.mk; rwa [N1.out] at this)).mono ?_
      rintro e w12 ⟨rfl, h12, -⟩
      have C12 := Lib.hid h12
      clear h12 x1 x2 x3
      have P3'' := Lib.hid (P3'.out.chg C12.out (fun x h1 h2 h3 => by have := z3.out; have := z4.out; have := z5.out; omega))
      have O6'' := Lib.hid (O6'.out.chg C12.out (fun x h1 h2 h3 => by have := L5.out (by rw [N1.out]; exact h3.1); omega))
      have E12 := Lib.hid (C12.out.ext E11.out (fun x hx => by have := z3.out; have := z4.out; have := z5.out; simp; omega))
      have q2 := Lib.hid (C12.out.blk p2'.out (fun hx => by have := z3.out; have := z4.out; have := z5.out; omega))
      clear P3' P5' O6' E11 p2' p7' C12
      go_wp2_with fail
      refine (eqSeenS_ _ _ _ _ _ _ L rfl O6''.out.els P3''.out.els S1.out.1).mono ?_
      rintro e w13 ⟨rfl, h13⟩
      have Q13 := Lib.hid h13
      clear h13
      go_wp2_with fail
      refine (markSeenS_ _ _ _ _ (w5.heap.size + 1) w6.heap.size _ L rfl (O6''.out.ext Q13.out) (by omega) (by have := S1.out.2.1; omega)).mono ?_
      rintro e w14 ⟨rfl, h14, -, hO14⟩
      have C14 := Lib.hid ((Chg.of_ext (fun b => w5.heap.size + 1 ≤ b ∧ b < w6.heap.size) Q13.out).trans h14)
      have O14 := Lib.hid hO14
      clear h14 hO14 Q13
      have P14 := Lib.hid (P3''.out.chg C14.out (fun x h1 h2 h3 => by have := z3.out; have := z4.out; have := z5.out; omega))
      have E14 := Lib.hid (C14.out.ext E12.out (fun x hx => by have := z3.out; have := z4.out; have := z5.out; simp; omega))
      have r2 := Lib.hid (C14.out.blk q2.out (fun hx => by have := z3.out; have := z4.out; have := z5.out; omega))
      clear P3'' O6'' C14 E12 q2
      go_wp2_with fail
      refine (heldSeenS_ _ _ _ _ _ L rfl O14.out.els (by omega) (by have := S1.out.2.1; omega)).mono ?_
      rintro e w15 ⟨rfl, h15⟩
      have Q15 := Lib.hid h15
      clear h15
      obtain ⟨x1, x2, x3⟩ := blkE r2.out _ Q15.out
      go_wp2_with fail
      refine wp_region_chain 11 (by kernel_rfl) (by kernel_rfl) ?_
      simp only [List.take_succ_cons, List.take_zero, List.drop_succ_cons, List.drop_zero]
      (apply Chain.quiet; · (intro vs wq hEq hd; obtain ⟨hcq, hfq⟩ := bcell hEq; clear hEq hd; (try simp only [Act.put, SP.pick, SP.is, SP.box, id_eq, List.take_succ_cons, List.take_zero, List.drop_succ_cons, List.drop_zero, List.setIfInBounds_toArray, List.set_cons_zero, List.set_cons_succ]); refine growOp_go ?_; go_simp; exact ⟨Ext.refl _, rfl⟩))
      refine Chain.sp (SP.seenC n0 l) ?_ ?_
      · intro vs wq hE hd
        clear hd
        (try simp only [Act.put, SP.pick, SP.is, SP.box, id_eq, List.take_succ_cons, List.take_zero, List.drop_succ_cons, List.drop_zero, List.setIfInBounds_toArray, List.set_cons_zero, List.set_cons_succ])
        refine growOp_go ?_
        go_simp
        refine (toSeenS_ _ _ _ _ l N0.out (els_up M0.out (Ext.trans E14.out (Ext.trans Q15.out hE))) L0.out).mono ?_
        rintro e w6 ⟨rfl, hE6, hO6⟩
        exact ⟨_, rfl, hE6, _, _, rfl, hO6.els, fun h => by cases h⟩
      (apply Chain.quiet; · (intro vs wq hEq hd; obtain ⟨hcq, hfq⟩ := bcell hEq; clear hEq hd; (try simp only [Act.put, SP.pick, SP.is, SP.box, id_eq, List.take_succ_cons, List.take_zero, List.drop_succ_cons, List.drop_zero, List.setIfInBounds_toArray, List.set_cons_zero, List.set_cons_succ]); refine growOp_go ?_; go_simp; exact ⟨Ext.refl _, rfl⟩))
      refine Chain.sp (SP.macN kd fm to sq fr mo re du n bd) ?_ ?_
      · intro vs wq hE hd
        clear hd
        (try simp only [Act.put, SP.pick, SP.is, SP.box, id_eq, List.take_succ_cons, List.take_zero, List.drop_succ_cons, List.drop_zero, List.setIfInBounds_toArray, List.set_cons_zero, List.set_cons_succ])
        refine growOp_go ?_
        go_simp
        refine (toMac_ _ _ _ _ _ _ _ _ _ _ _ _ bd N1.out (M1.out.ext (Ext.trans E14.out (Ext.trans Q15.out hE))) L1.out).mono ?_
        rintro e w6 ⟨g6, rfl, hE6, hg6, hO6⟩
        refine ⟨_, rfl, hE6, _, _, rfl, ?_⟩
        have := (NewB.of_blk (l := bd) hg6 hO6).rb
        rwa [N1.out] at this
      (apply Chain.quiet; · (intro vs wq hEq hd; obtain ⟨hcq, hfq⟩ := bcell hEq; clear hEq hd; (try simp only [Act.put, SP.pick, SP.is, SP.box, id_eq, List.take_succ_cons, List.take_zero, List.drop_succ_cons, List.drop_zero, List.setIfInBounds_toArray, List.set_cons_zero, List.set_cons_succ]); refine growOp_go ?_; go_simp; exact ⟨Ext.refl _, rfl⟩))
      refine Chain.sp (SP.accE L.length L q) ?_ ?_
      · intro vs wq hE hd
        obtain ⟨A7, c7, e7, Q7, Z7⟩ := hd 1 (by kernel_rfl)
        obtain ⟨A8, c8, e8, Q8⟩ := hd 3 (by kernel_rfl)
        have Q7' := Lib.hid Q7
        clear hd Q7 Q8 Z7
        simp only [Act.put, SP.pick, SP.is, SP.box, id_eq, List.take_succ_cons, List.take_zero, List.drop_succ_cons, List.drop_zero, List.setIfInBounds_toArray, List.set_cons_zero, List.set_cons_succ]
        rw [e7, e8]
        refine growOp_go ?_
        clear e7 e8
        go_simp
        refine (iAcc _ _ _ _ _ _ _ _ _ _ _ _ _ _ _ _ l N0.out Q7'.out L0.out).mono ?_
        rintro e w6 ⟨A6, c6, rfl, hE6, hO6⟩
        rw [← hL'.out] at hO6
        exact ⟨_, rfl, hE6, A6, c6, by rw [hL'.out, hQ.out], hO6.els⟩
      refine Chain.sp (SP.accE L.length L q) ?_ ?_
      · intro vs wq hE hd
        obtain ⟨A7, c7, e7, O7⟩ := hd 5 (by kernel_rfl)
        have O7' := Lib.hid O7
        clear hd O7
        simp only [Act.put, SP.pick, SP.is, SP.box, id_eq, List.take_succ_cons, List.take_zero, List.drop_succ_cons, List.drop_zero, List.setIfInBounds_toArray, List.set_cons_zero, List.set_cons_succ]
        rw [e7]
        refine growOp_go ?_
        clear e7
        go_simp
        exact ⟨Ext.refl _, _, _, rfl, O7'.out⟩
      refine Chain.sp (SP.seen L.length L) ?_ ?_
      · intro vs wq hE hd
        obtain ⟨A7, c7, e7, O7⟩ := hd 6 (by kernel_rfl)
        have O7' := Lib.hid O7
        clear hd O7
        simp only [Act.put, SP.pick, SP.is, SP.box, id_eq, List.take_succ_cons, List.take_zero, List.drop_succ_cons, List.drop_zero, List.setIfInBounds_toArray, List.set_cons_zero, List.set_cons_succ]
        rw [e7]
        refine growOp_go ?_
        clear e7
        go_simp
        exact ⟨Ext.refl _, _, _, rfl, O7'.out⟩
      apply Chain.quiet
      · intro vs wq hE hd
        obtain ⟨A7, c7, e7, O7⟩ := hd 6 (by kernel_rfl)
        clear hd O7
        simp only [Act.put, SP.pick, SP.is, SP.box, id_eq, List.take_succ_cons, List.take_zero, List.drop_succ_cons, List.drop_zero, List.setIfInBounds_toArray, List.set_cons_zero, List.set_cons_succ]
        rw [e7]
        refine growOp_go ?_
        clear e7
        go_simp
        exact ⟨Ext.refl _, rfl⟩
      refine Chain.sp (SP.seen L.length L) ?_ ?_
      · intro vs wq hE hd
        obtain ⟨A7, c7, e7, O7⟩ := hd 7 (by kernel_rfl)
        have O7' := Lib.hid O7
        clear hd O7
        simp only [Act.put, SP.pick, SP.is, SP.box, id_eq, List.take_succ_cons, List.take_zero, List.drop_succ_cons, List.drop_zero, List.setIfInBounds_toArray, List.set_cons_zero, List.set_cons_succ]
        rw [e7]
        refine growOp_go ?_
        clear e7
        go_simp
        exact ⟨Ext.refl _, _, _, rfl, O7'.out⟩
      (apply Chain.quiet; · (intro vs wq hEq hd; obtain ⟨hcq, hfq⟩ := bcell hEq; clear hEq hd; (try simp only [Act.put, SP.pick, SP.is, SP.box, id_eq, List.take_succ_cons, List.take_zero, List.drop_succ_cons, List.drop_zero, List.setIfInBounds_toArray, List.set_cons_zero, List.set_cons_succ]); refine growOp_go ?_; go_simp; exact ⟨Ext.refl _, rfl⟩))
      refine Chain.done ?_
      intro vs w16 hE16 hd16
      simp only [Act.put, SP.pick, SP.is, SP.box, id_eq, List.take_succ_cons, List.take_zero, List.drop_succ_cons, List.drop_zero, List.setIfInBounds_toArray, List.set_cons_zero, List.set_cons_succ]
      obtain ⟨Ah, ch, e16, Q16⟩ := hd16 9
      rw [e16]
      simp only [SP.seen, SP.accE, id_eq]
      have R16 := Lib.hid Q16
      have Q17 := Lib.hid (Ext.trans Q15.out hE16)
      clear hd16 e16 Q16 hE16 x1 x2 x3 Q15
      go_wp2_with fail
      refine (eqSeenS_ _ _ _ _ _ _ L rfl R16.out (els_up P14.out.els Q17.out) S1.out.1).mono ?_
      rintro e w18 ⟨rfl, h18⟩
      have Q18 := Lib.hid (Ext.trans Q17.out h18)
      clear h18 R16 Q17
      go_wp2_with fail
      refine (heldSeenS_ _ _ _ _ _ L rfl (els_up O14.out.els Q18.out) (by omega) (by have := S1.out.2.1; omega)).mono ?_
      rintro e w19 ⟨rfl, h19⟩
      have Q19 := Lib.hid (Ext.trans Q18.out h19)
      clear h19
      go_wp2_with fail
      go_ret
      exact ⟨rfl, Ext.trans E0.out (Ext.trans E14.out Q19.out)⟩
end Go.Proofs.Ytcjppmihmfcagaa
