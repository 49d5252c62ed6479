/- Walks of the laws over two reservations. -/
import Derived.Test.YtaideophjlnoeaaG2
namespace Go.Proofs.Ytaideophjlnoeaa
open Go.RowKit
set_option linter.unusedVariables false
set_option linter.unusedSimpArgs false
theorem walk_FnExactCombineReservations (a0 a1 : Array Value) (w : World) (r0 : Rd Try.prog w 26 (Value.agg a0).cells.toList) (r1 : Rd Try.prog w 26 (Value.agg a1).cells.toList) :
    Calls Try.prog 10 #[.agg a0, .agg a1] w fun e w' => e = .returned (.bool true) ∧ Below w.heap.size w w' := by
  obtain ⟨u1, o1, b1, rfl, -, -, -⟩ := view_res r0
  obtain ⟨u2, o2, b2, rfl, -, -, -⟩ := view_res r1
  clear r0 r1
  go_enter Try.func10, Try.ntmps10
  go_wp2_with fail
  refine wp_region_sp 6 [.is (.agg #[.int .i64 u1, .int .i64 o1, .int .i64 b1]), .is (.agg #[.int .i64 u1, .int .i64 o1, .int .i64 b1]), .is (.agg #[.int .i64 u2, .int .i64 o2, .int .i64 b2]), .is (.agg #[.int .i64 u2, .int .i64 o2, .int .i64 b2]),
    .is (.agg #[.int .i64 (cmb u1 u2 u1 u2), .int .i64 (cmb u1 u2 o1 o2), .int .i64 (cmb u1 u2 b1 b2)]), .box (w.heap.size + 2) #[.int .i64 0, .int .i64 0, .int .i64 0] 28] (by kernel_rfl) (by kernel_rfl) ⟨?_, ?_, ?_, ?_, ?_, ?_, trivial⟩ ?_
  · (intro vs w1 hE hd; obtain ⟨hc, hf⟩ := bcell hE; simp only [putAll, Act.put, List.take_succ_cons, List.take_zero, List.drop_succ_cons, List.drop_zero, List.setIfInBounds_toArray, List.set_cons_zero, List.set_cons_succ]; refine growOp_go ?_; clear hd hE; go_simp; exact ⟨Ext.refl _, rfl⟩)
  · intro vs w1 hE hd
    have e0 := hd 0 (by kernel_rfl)
    change vs 0 = _ at e0
    simp only [putAll, Act.put, List.take_succ_cons, List.take_zero, List.drop_succ_cons, List.drop_zero, List.setIfInBounds_toArray, List.set_cons_zero, List.set_cons_succ]
    refine growOp_go ?_
    clear hd hE
    go_simp
    refine (toRes _ _ _ _).mono ?_
    rintro e w2 ⟨rfl, hb⟩
    exact ⟨_, rfl, hb, rfl⟩
  · (intro vs w1 hE hd; obtain ⟨hc, hf⟩ := bcell hE; simp only [putAll, Act.put, List.take_succ_cons, List.take_zero, List.drop_succ_cons, List.drop_zero, List.setIfInBounds_toArray, List.set_cons_zero, List.set_cons_succ]; refine growOp_go ?_; clear hd hE; go_simp; exact ⟨Ext.refl _, rfl⟩)
  · intro vs w1 hE hd
    have e0 := hd 2 (by kernel_rfl)
    change vs 2 = _ at e0
    simp only [putAll, Act.put, List.take_succ_cons, List.take_zero, List.drop_succ_cons, List.drop_zero, List.setIfInBounds_toArray, List.set_cons_zero, List.set_cons_succ]
    refine growOp_go ?_
    clear hd hE
    go_simp
    refine (toRes _ _ _ _).mono ?_
    rintro e w2 ⟨rfl, hb⟩
    exact ⟨_, rfl, hb, rfl⟩
  · intro vs w1 hE hd
    have e0 := hd 1 (by kernel_rfl)
    change vs 1 = _ at e0
    have e1 := hd 3 (by kernel_rfl)
    change vs 3 = _ at e1
    simp only [putAll, Act.put, List.take_succ_cons, List.take_zero, List.drop_succ_cons, List.drop_zero, List.setIfInBounds_toArray, List.set_cons_zero, List.set_cons_succ]
    refine growOp_go ?_
    clear hd hE
    go_simp
    refine (sComb _ _ _ _ _ _ _).mono ?_
    rintro e w2 ⟨rfl, hb⟩
    exact ⟨_, rfl, hb, rfl⟩
  · (intro vs w1 hE hd; have hz := hE.size; simp only [putAll, Act.put, List.take_succ_cons, List.take_zero, List.drop_succ_cons, List.drop_zero, List.setIfInBounds_toArray, List.set_cons_zero, List.set_cons_succ]; refine growOp_go ?_; clear hd hE; go_simp; exact ⟨Ext.alloc_ _ _, _, rfl, by first | omega | (simp at hz; omega), heap_alloc_new _ _⟩)
  · intro vs w1 hE hd
    have e4 := hd 4 (by omega)
    change vs 4 = _ at e4
    obtain ⟨g, e5, hg, hgc⟩ := hd 5 (by omega)
    obtain ⟨hgc1, hgc2, hgc3⟩ := blk_cells hgc
    simp only [putAll, Act.put, List.take_succ_cons, List.take_zero, List.drop_succ_cons, List.drop_zero, List.setIfInBounds_toArray, List.set_cons_zero, List.set_cons_succ]
    rw [e4, e5]
    clear hd e4 e5
    go_wp2_with fail
    have hE1 := Ext.setCell_ (Ext.setCell_ (Ext.setCell_ hE (p := ⟨g, 0, none⟩) (by simpa using hg) (.int .i64 (cmb u1 u2 u1 u2))) (p := ⟨g, 1, none⟩) (by simpa using hg) (.int .i64 (cmb u1 u2 o1 o2))) (p := ⟨g, 2, none⟩) (by simpa using hg) (.int .i64 (cmb u1 u2 b1 b2))
    have hB1 : _ = some (Obj.cells #[.int .i64 (cmb u1 u2 u1 u2), .int .i64 (cmb u1 u2 o1 o2), .int .i64 (cmb u1 u2 b1 b2)] 28 (0, 0)) := blk_set (blk_set (blk_set hgc 0 (.int .i64 (cmb u1 u2 u1 u2))) 1 (.int .i64 (cmb u1 u2 o1 o2))) 2 (.int .i64 (cmb u1 u2 b1 b2))
    clear hgc hgc1 hgc2 hgc3
    generalize ((w1.setCell ⟨g, 0, none⟩ (.int .i64 (cmb u1 u2 u1 u2))).setCell ⟨g, 1, none⟩ (.int .i64 (cmb u1 u2 o1 o2))).setCell ⟨g, 2, none⟩ (.int .i64 (cmb u1 u2 b1 b2)) = W1 at *
    clear hE w1
    obtain ⟨hB11, hB12, hgW⟩ := blk_cells hB1
    refine wp_region_sp 6 [.is (.agg #[.int .i64 u1, .int .i64 o1, .int .i64 b1]), .is (.agg #[.int .i64 u1, .int .i64 o1, .int .i64 b1]), .is (.agg #[.int .i64 u2, .int .i64 o2, .int .i64 b2]), .is (.agg #[.int .i64 u2, .int .i64 o2, .int .i64 b2]),
      .is (.agg #[.int .i64 (cmb u1 u2 u1 u2), .int .i64 (cmb u1 u2 o1 o2), .int .i64 (cmb u1 u2 b1 b2)]), .box W1.heap.size #[.int .i64 0, .int .i64 0, .int .i64 0] 28] (by kernel_rfl) (by kernel_rfl) ⟨?_, ?_, ?_, ?_, ?_, ?_, trivial⟩ ?_
    · (intro vs w1 hE hd; obtain ⟨hc, hf⟩ := bcell (Ext.trans hE1 hE); simp only [putAll, Act.put, List.take_succ_cons, List.take_zero, List.drop_succ_cons, List.drop_zero, List.setIfInBounds_toArray, List.set_cons_zero, List.set_cons_succ]; refine growOp_go ?_; clear hd hE; go_simp; exact ⟨Ext.refl _, rfl⟩)
    · intro vs w1 hE hd
      have e0 := hd 0 (by kernel_rfl)
      change vs 0 = _ at e0
      simp only [putAll, Act.put, List.take_succ_cons, List.take_zero, List.drop_succ_cons, List.drop_zero, List.setIfInBounds_toArray, List.set_cons_zero, List.set_cons_succ]
      refine growOp_go ?_
      clear hd hE
      go_simp
      refine (toRes _ _ _ _).mono ?_
      rintro e w2 ⟨rfl, hb⟩
      exact ⟨_, rfl, hb, rfl⟩
    · (intro vs w1 hE hd; obtain ⟨hc, hf⟩ := bcell (Ext.trans hE1 hE); simp only [putAll, Act.put, List.take_succ_cons, List.take_zero, List.drop_succ_cons, List.drop_zero, List.setIfInBounds_toArray, List.set_cons_zero, List.set_cons_succ]; refine growOp_go ?_; clear hd hE; go_simp; exact ⟨Ext.refl _, rfl⟩)
    · intro vs w1 hE hd
      have e0 := hd 2 (by kernel_rfl)
      change vs 2 = _ at e0
      simp only [putAll, Act.put, List.take_succ_cons, List.take_zero, List.drop_succ_cons, List.drop_zero, List.setIfInBounds_toArray, List.set_cons_zero, List.set_cons_succ]
      refine growOp_go ?_
      clear hd hE
      go_simp
      refine (toRes _ _ _ _).mono ?_
      rintro e w2 ⟨rfl, hb⟩
      exact ⟨_, rfl, hb, rfl⟩
    · intro vs w1 hE hd
      have e0 := hd 1 (by kernel_rfl)
      change vs 1 = _ at e0
      have e1 := hd 3 (by kernel_rfl)
      change vs 3 = _ at e1
      simp only [putAll, Act.put, List.take_succ_cons, List.take_zero, List.drop_succ_cons, List.drop_zero, List.setIfInBounds_toArray, List.set_cons_zero, List.set_cons_succ]
      refine growOp_go ?_
      clear hd hE
      go_simp
      refine (iComb _ _ _ _ _ _ _).mono ?_
      rintro e w2 ⟨rfl, hb⟩
      exact ⟨_, rfl, hb, rfl⟩
    · (intro vs w1 hE hd; have hz := hE.size; simp only [putAll, Act.put, List.take_succ_cons, List.take_zero, List.drop_succ_cons, List.drop_zero, List.setIfInBounds_toArray, List.set_cons_zero, List.set_cons_succ]; refine growOp_go ?_; clear hd hE; go_simp; exact ⟨Ext.alloc_ _ _, _, rfl, by first | omega | (simp at hz; omega), heap_alloc_new _ _⟩)
    · intro vs w1 hE hd
      have e4 := hd 4 (by omega)
      change vs 4 = _ at e4
      obtain ⟨g', e5, hg', hgc⟩ := hd 5 (by omega)
      obtain ⟨hgc1, hgc2, hgc3⟩ := blk_cells hgc
      simp only [putAll, Act.put, List.take_succ_cons, List.take_zero, List.drop_succ_cons, List.drop_zero, List.setIfInBounds_toArray, List.set_cons_zero, List.set_cons_succ]
      rw [e4, e5]
      have hne : g ≠ g' := by omega
      have hr : W1.heap.size ≤ g' := hg'
      obtain ⟨hc, hf⟩ := bcell hE
      have c0 := (hc g 0 hgW).trans (hB11 0)
      have c1 := (hc g 1 hgW).trans (hB11 1)
      have c2 := (hc g 2 hgW).trans (hB11 2)
      simp only [List.getElem?_toArray, List.getElem?_cons_zero, List.getElem?_cons_succ] at c0 c1 c2
      clear hc hf hB11 hB12 hd e4 e5
      go_wp2_with fail
      refine (eqRes _ _ _ _).mono ?_
      rintro e w2 ⟨rfl, hb2⟩
      go_wp2_with fail
      go_ret
      have hE2 := Ext.trans (Ext.setCell_ (Ext.setCell_ (Ext.setCell_ hE (p := ⟨g', 0, none⟩) hr _) (p := ⟨g', 1, none⟩) hr _) (p := ⟨g', 2, none⟩) hr _) hb2
      exact ⟨rfl, Ext.trans (Ext.trans (Ext.alloc_ _ _) (Ext.alloc_ _ _)) (Ext.trans hE1 hE2)⟩
theorem resvS (u o b n : Int) (w : World) : Calls Try.prog 53 #[.agg #[.int .i64 u, .int .i64 o, .int .i64 b], .int .i64 n] w fun e w' => e = .returned (.bool (decide (n < u))) ∧ Below w.heap.size w w' := by
  go_enter Try.func53, Try.ntmps53
  go_wp2
  go_ret
  exact ⟨rfl, by repeat (first | exact Below.refl _ _ | assumption | refine Below.alloc ?_ (by simp <;> omega) _ | refine Below.setCell ?_ (by simp <;> omega) _ | refine Below.drew ?_)⟩
theorem resvI (u o b n : Int) (w : World) : Calls Try.prog 54 #[.agg #[.int .i64 u, .int .i64 o, .int .i64 b], .int .i64 n] w fun e w' => e = .returned (.bool (decide (n < u))) ∧ Below w.heap.size w w' := by
  go_enter Try.func54, Try.ntmps54
  go_wp2
  go_ret
  exact ⟨rfl, by repeat (first | exact Below.refl _ _ | assumption | refine Below.alloc ?_ (by simp <;> omega) _ | refine Below.setCell ?_ (by simp <;> omega) _ | refine Below.drew ?_)⟩
def relV (c : Bool) (x : Int) : Int := if c then 0 else x
theorem relV_t (x : Int) : relV true x = 0 := rfl
theorem relV_f (x : Int) : relV false x = x := rfl
theorem sRel (u o b n : Int) (h : Bool) (w : World) : Calls Try.prog 36 #[.agg #[.int .i64 u, .int .i64 o, .int .i64 b], .int .i64 n, .bool h] w
    fun e w' => e = .returned (.agg #[.int .i64 (relV (decide (n < u) && !h) u), .int .i64 (relV (decide (n < u) && !h) o), .int .i64 (relV (decide (n < u) && !h) b)]) ∧ Below w.heap.size w w' := by
  by_cases hn : n < u
  · cases h with
    | false =>
      simp only [hn, decide_true, Bool.not_false, Bool.and_self, relV_t]
      go_enter Try.func36, Try.ntmps36
      go_wp2_with fail
      refine (resvS _ _ _ _ _).mono ?_
      rintro e w1 ⟨rfl, hb⟩
      obtain ⟨hc, hf⟩ := bcell hb
      have hz := hb.size
      simp only [World.size_alloc] at hz
      have hb0 : Below w.heap.size w w1 := Ext.trans (Ext.trans (Ext.alloc_ _ _) (Ext.alloc_ _ _)) hb
      clear hb
      go_wp2_with fail
      exact bodyPost_ret (v := .agg #[.int .i64 0, .int .i64 0, .int .i64 0]) (by simp [results, Try.results36, go_sem, hc, hf]) rfl ⟨rfl, by repeat (first | exact Below.refl _ _ | assumption | refine Below.alloc ?_ (by simp <;> omega) _ | refine Below.setCell ?_ (by simp <;> omega) _ | refine Below.drew ?_)⟩
    | true =>
      simp only [Bool.not_true, Bool.and_false, relV_f]
      go_enter Try.func36, Try.ntmps36
      go_wp2_with fail
      refine (resvS _ _ _ _ _).mono ?_
      rintro e w1 ⟨rfl, hb⟩
      obtain ⟨hc, hf⟩ := bcell hb
      have hz := hb.size
      simp only [World.size_alloc] at hz
      have hb0 : Below w.heap.size w w1 := Ext.trans (Ext.trans (Ext.alloc_ _ _) (Ext.alloc_ _ _)) hb
      clear hb
      go_wp2_with fail
      exact bodyPost_ret (v := .agg #[.int .i64 u, .int .i64 o, .int .i64 b]) (by simp [results, Try.results36, go_sem, hc, hf]) rfl ⟨rfl, by repeat (first | exact Below.refl _ _ | assumption | refine Below.alloc ?_ (by simp <;> omega) _ | refine Below.setCell ?_ (by simp <;> omega) _ | refine Below.drew ?_)⟩
  · simp only [hn, decide_false, Bool.false_and, relV_f]
    go_enter Try.func36, Try.ntmps36
    go_wp2_with fail
    refine (resvS _ _ _ _ _).mono ?_
    rintro e w1 ⟨rfl, hb⟩
    obtain ⟨hc, hf⟩ := bcell hb
    have hz := hb.size
    simp only [World.size_alloc] at hz
    have hb0 : Below w.heap.size w w1 := Ext.trans (Ext.trans (Ext.alloc_ _ _) (Ext.alloc_ _ _)) hb
    clear hb
    go_wp2_with fail
    exact bodyPost_ret (v := .agg #[.int .i64 u, .int .i64 o, .int .i64 b]) (by simp [results, Try.results36, go_sem, hc, hf]) rfl ⟨rfl, by repeat (first | exact Below.refl _ _ | assumption | refine Below.alloc ?_ (by simp <;> omega) _ | refine Below.setCell ?_ (by simp <;> omega) _ | refine Below.drew ?_)⟩
theorem iRel (u o b n : Int) (h : Bool) (w : World) : Calls Try.prog 37 #[.agg #[.int .i64 u, .int .i64 o, .int .i64 b], .int .i64 n, .bool h] w
    fun e w' => e = .returned (.agg #[.int .i64 (relV (decide (n < u) && !h) u), .int .i64 (relV (decide (n < u) && !h) o), .int .i64 (relV (decide (n < u) && !h) b)]) ∧ Below w.heap.size w w' := by
  by_cases hn : n < u
  · cases h with
    | false =>
      simp only [hn, decide_true, Bool.not_false, Bool.and_self, relV_t]
      go_enter Try.func37, Try.ntmps37
      go_wp2_with fail
      refine (resvI _ _ _ _ _).mono ?_
      rintro e w1 ⟨rfl, hb⟩
      obtain ⟨hc, hf⟩ := bcell hb
      have hz := hb.size
      simp only [World.size_alloc] at hz
      have hb0 : Below w.heap.size w w1 := Ext.trans (Ext.trans (Ext.alloc_ _ _) (Ext.alloc_ _ _)) hb
      clear hb
      go_wp2_with fail
      exact bodyPost_ret (v := .agg #[.int .i64 0, .int .i64 0, .int .i64 0]) (by simp [results, Try.results37, go_sem, hc, hf]) rfl ⟨rfl, by repeat (first | exact Below.refl _ _ | assumption | refine Below.alloc ?_ (by simp <;> omega) _ | refine Below.setCell ?_ (by simp <;> omega) _ | refine Below.drew ?_)⟩
    | true =>
      simp only [Bool.not_true, Bool.and_false, relV_f]
      go_enter Try.func37, Try.ntmps37
      go_wp2_with fail
      refine (resvI _ _ _ _ _).mono ?_
      rintro e w1 ⟨rfl, hb⟩
      obtain ⟨hc, hf⟩ := bcell hb
      have hz := hb.size
      simp only [World.size_alloc] at hz
      have hb0 : Below w.heap.size w w1 := Ext.trans (Ext.trans (Ext.alloc_ _ _) (Ext.alloc_ _ _)) hb
      clear hb
      go_wp2_with fail
      exact bodyPost_ret (v := .agg #[.int .i64 u, .int .i64 o, .int .i64 b]) (by simp [results, Try.results37, go_sem, hc, hf]) rfl ⟨rfl, by repeat (first | exact Below.refl _ _ | assumption | refine Below.alloc ?_ (by simp <;> omega) _ | refine Below.setCell ?_ (by simp <;> omega) _ | refine Below.drew ?_)⟩
  · simp only [hn, decide_false, Bool.false_and, relV_f]
    go_enter Try.func37, Try.ntmps37
    go_wp2_with fail
    refine (resvI _ _ _ _ _).mono ?_
    rintro e w1 ⟨rfl, hb⟩
    obtain ⟨hc, hf⟩ := bcell hb
    have hz := hb.size
    simp only [World.size_alloc] at hz
    have hb0 : Below w.heap.size w w1 := Ext.trans (Ext.trans (Ext.alloc_ _ _) (Ext.alloc_ _ _)) hb
    clear hb
    go_wp2_with fail
    exact bodyPost_ret (v := .agg #[.int .i64 u, .int .i64 o, .int .i64 b]) (by simp [results, Try.results37, go_sem, hc, hf]) rfl ⟨rfl, by repeat (first | exact Below.refl _ _ | assumption | refine Below.alloc ?_ (by simp <;> omega) _ | refine Below.setCell ?_ (by simp <;> omega) _ | refine Below.drew ?_)⟩
theorem walk_FnExactReleaseUnused (a0 : Array Value) (a1 : Int) (a2 : Bool) (w : World) (r0 : Rd Try.prog w 26 (Value.agg a0).cells.toList) (w1 : (Lit.int .i64 a1).wf = true) :
    Calls Try.prog 12 #[.agg a0, .int .i64 a1, .bool a2] w fun e w' => e = .returned (.bool true) ∧ Below w.heap.size w w' := by
  obtain ⟨u, o, b, rfl, -, -, -⟩ := view_res r0
  clear r0 w1
  go_enter Try.func12, Try.ntmps12
  go_wp2_with fail
  refine (toRes _ _ _ _).mono ?_
  rintro e w1 ⟨rfl, hb1⟩
  go_wp2_with fail
  refine (sRel _ _ _ _ _ _).mono ?_
  rintro e w2 ⟨rfl, hb2⟩
  have hb := Ext.trans (Ext.trans (Ext.alloc_ _ _) hb1) hb2
  obtain ⟨hc2, hf2⟩ := bcell (Ext.trans hb1 hb2)
  have hz2 : w.heap.size < w2.heap.size := Ext.lt_alloc (Ext.trans hb1 hb2)
  clear hb1 hb2
  go_wp2_with fail
  refine (toRes _ _ _ _).mono ?_
  rintro e w3 ⟨rfl, hb3⟩
  go_wp2_with fail
  refine (iRel _ _ _ _ _ _).mono ?_
  rintro e w4 ⟨rfl, hb4⟩
  have hb' := Ext.trans hb (Ext.trans (Ext.trans (Ext.alloc_ _ _) hb3) hb4)
  obtain ⟨hc4, hf4⟩ := bcell (Ext.trans hb3 hb4)
  have hz4 : w2.heap.size < w4.heap.size := Ext.lt_alloc (Ext.trans hb3 hb4)
  clear hb3 hb4 hb
  go_wp2_with fail
  refine (eqRes _ _ _ _).mono ?_
  rintro e w5 ⟨rfl, hb5⟩
  go_wp2_with fail
  go_ret
  exact ⟨rfl, Ext.trans hb' (Ext.trans (Ext.alloc_ _ _) hb5)⟩
end Go.Proofs.Ytaideophjlnoeaa
