/- The law on valid messages. -/
import Derived.Test.YtchhjidldppciaaMsg
namespace Go.Proofs.Ytchhjidldppciaa
open Go.RowKit
set_option linter.unusedVariables false
set_option linter.unusedSimpArgs false
/-- A value that reads as a message. -/
def SP.msg (to cat dl : Int) (n : Nat) (l : List Int) : SP :=
  { p := fun v w => ∃ A c, v = .agg #[.int .i64 to, .int .i64 cat, .int .i64 dl, .slice A n c] ∧ RB w A c l
    st := fun v w w' hE ⟨A, c, h1, h2⟩ => ⟨A, c, h1, h2.ext hE⟩ }
theorem walk_FnExactIsValidMessage (a0 : Array Value) (w : World) (r0 : Rd Try.prog w 37 (Value.agg a0).cells.toList) :
    Calls Try.prog 7 #[.agg a0] w fun e w' => e = .returned (.bool true) ∧ Below w.heap.size w w' := by
  obtain ⟨⟨to, cat, dl, l⟩, ⟨A, c, hcs, hr⟩, hm⟩ := msg_rd r0
  obtain ⟨cs⟩ := a0
  simp only [Value.cells] at hcs
  subst hcs
  clear r0
  simp only at *
  obtain ⟨n, hn⟩ : ∃ n, l.length = n := ⟨_, rfl⟩
  rw [hn] at hm ⊢
  have hn' := Lib.hid hn
  have hr' := Lib.hid hr
  have hm' := Lib.hid hm
  clear hn hr hm
  by_cases hbig : (1048576 : Int) < (n : Int)
  · go_enter Try.func7, Try.ntmps7
    go_wp2_with fail
    refine (szMsg_ _ _ _ _ _ _ _ _ ⟨by omega, by omega⟩ hm'.out).mono ?_
    rintro e w1 ⟨rfl, hb1⟩
    rw [if_pos hbig]
    go_wp2_with fail
    go_ret
    exact ⟨rfl, Ext.trans (Ext.alloc_ _ _) hb1⟩
  · have hl : n ≤ 1048576 := by omega
    go_enter Try.func7, Try.ntmps7
    go_wp2_with fail
    refine (szMsg_ _ _ _ _ _ _ _ _ ⟨by omega, by omega⟩ hm'.out).mono ?_
    rintro e w1 ⟨rfl, hb1⟩
    rw [if_neg (by omega)]
    have hz1 : w.heap.size < w1.heap.size := Ext.lt_alloc hb1
    obtain ⟨hc1, hf1⟩ := bcell (hb1)
    go_wp2_with fail
    refine (toMsg_ _ _ _ _ _ _ _ l hn'.out (hr'.out.ext (Ext.trans (Ext.alloc_ _ _) hb1)) hl).mono ?_
    rintro e w2 ⟨g2, rfl, hb2, -, hk2⟩
    go_wp2_with fail
    refine (sMsgOk _ _ _ _ _ _ _).mono ?_
    rintro e w3 ⟨rfl, hb3⟩
    have hE3 := Ext.trans (Ext.trans hb1 hb2) hb3
    obtain ⟨hc3, hf3⟩ := bcell (hE3)
    clear hb1 hb2 hb3 hc1 hf1 hk2
    go_wp2_with fail
    refine (toMsg_ _ _ _ _ _ _ _ l hn'.out (hr'.out.ext (Ext.trans (Ext.alloc_ _ _) hE3)) hl).mono ?_
    rintro e w4 ⟨g4, rfl, hb4, hg4, hk4⟩
    have hE4 := Ext.trans hE3 hb4
    have hk4' := Lib.hid hk4
    have hz4 : w.heap.size < w4.heap.size := Ext.lt_alloc hE4
    clear hE3 hb4 hc3 hf3 hk4
    go_wp2_with fail
    refine (iMsgOk _ _ _ _ _ _ _).mono ?_
    rintro e w5 ⟨rfl, hb5⟩
    have hE5 := Ext.trans (Ext.trans hE4 (Ext.alloc_ _ _)) hb5
    have hx5 := ext_blk hb5 (new_blk1 w4 _ _)
    obtain ⟨hx1, hx2, hx3⟩ := blk_cells hx5
    have hy5 := ext_blk hE5 (new_blk1 w _ _)
    obtain ⟨hy1, hy2, hy3⟩ := blk_cells hy5
    have R4 : RB w5 (some ⟨g4, 0, none⟩) n l := by have := rb_blk hk4'.out; rw [hn'.out] at this; exact this.ext (Ext.trans (Ext.alloc_ _ _) hb5)
    have R4' := Lib.hid R4
    have hE5' := Lib.hid hE5
    clear hb5 hx5 hy5 hE4 hk4' R4 hE5
    go_wp2_with fail
    refine wp_region_chain 5 (by kernel_rfl) (by kernel_rfl) ?_
    simp only [List.take_succ_cons, List.take_zero, List.drop_succ_cons, List.drop_zero]
    repeat (apply Chain.quiet; · (intro vs wq hE hd; obtain ⟨hc, hf⟩ := bcell hE; clear hE hd; (try simp only [Act.put, SP.pick, SP.is, SP.box, id_eq, List.take_succ_cons, List.take_zero, List.drop_succ_cons, List.drop_zero, List.setIfInBounds_toArray, List.set_cons_zero, List.set_cons_succ]); refine growOp_go ?_; go_simp; exact ⟨Ext.refl _, rfl⟩))
    refine Chain.sp (SP.msg to cat dl n l) ?_ ?_
    · intro vs wq hE hd
      clear hd
      (try simp only [Act.put, SP.pick, SP.is, SP.box, id_eq, List.take_succ_cons, List.take_zero, List.drop_succ_cons, List.drop_zero, List.setIfInBounds_toArray, List.set_cons_zero, List.set_cons_succ])
      refine growOp_go ?_
      go_simp
      refine (toMsg_ _ _ _ _ _ _ _ l hn'.out (hr'.out.ext (Ext.trans (Ext.trans (Ext.alloc_ _ _) hE5'.out) hE)) hl).mono ?_
      rintro e w6 ⟨g6, rfl, hb6, -, hk6⟩
      refine ⟨_, rfl, hb6, _, _, rfl, ?_⟩
      have := rb_blk hk6
      rw [hn'.out] at this
      exact this
    apply Chain.quiet
    · intro vs wq hE hd
      obtain ⟨A6, c6, e6, R6⟩ := hd 2 (by kernel_rfl)
      clear hd
      simp only [Act.put, SP.pick, SP.is, SP.box, id_eq, List.take_succ_cons, List.take_zero, List.drop_succ_cons, List.drop_zero, List.setIfInBounds_toArray, List.set_cons_zero, List.set_cons_succ]
      rw [e6]
      refine growOp_go ?_
      clear e6
      go_simp
      refine (eqMsg_ _ _ _ _ _ _ _ _ _ l hn'.out (R4'.out.ext hE) R6 hl).mono ?_
      rintro e w7 ⟨rfl, hb7⟩
      first | exact ⟨rfl, hb7⟩ | exact ⟨_, rfl, hb7, rfl⟩
    (apply Chain.quiet; · (intro vs wq hE hd; obtain ⟨hc, hf⟩ := bcell hE; clear hE hd; (try simp only [Act.put, SP.pick, SP.is, SP.box, id_eq, List.take_succ_cons, List.take_zero, List.drop_succ_cons, List.drop_zero, List.setIfInBounds_toArray, List.set_cons_zero, List.set_cons_succ]); refine growOp_go ?_; go_simp; exact ⟨Ext.refl _, rfl⟩))
    refine Chain.done ?_
    intro vs w8 hE8 hd8
    simp only [Act.put, SP.pick, SP.is, SP.box, id_eq, List.take_succ_cons, List.take_zero, List.drop_succ_cons, List.drop_zero, List.setIfInBounds_toArray, List.set_cons_zero, List.set_cons_succ]
    clear hd8
    go_wp2_with fail
    go_ret
    exact ⟨rfl, Ext.trans (Ext.trans (Ext.alloc_ _ _) hE5'.out) hE8⟩
end Go.Proofs.Ytchhjidldppciaa
