/- The law's own function 'at': a byte of the input, or a substitute; DrawBackoffFailed. -/
import Derived.Test.YtkmklafjcjkpdaaBkE
namespace Go.Proofs.Ytkmklafjcjkpdaa
open Go.RowKit
set_option linter.unusedVariables false
set_option linter.unusedSimpArgs false
def atV (l : List Int) (i : Nat) : Int := if h : i < l.length then l[i] else ((i : Int) * 31 + l.length * 7).tmod 256
theorem atV_bd {l : List Int} (hb : ∀ x ∈ l, 0 ≤ x ∧ x ≤ 255) (i : Nat) : 0 ≤ atV l i ∧ atV l i ≤ 255 := by
  unfold atV
  split
  · rename_i h
    exact hb _ (List.getElem_mem h)
  · have := mod_lt (x := (i : Int) * 31 + l.length * 7) (n := 256) (by omega) (by omega)
    omega
theorem at_ (w : World) (A : Option Addr) (n c : Nat) (l : List Int) (i : Nat) (z : Int) (hz : z = (i : Int)) (hn : l.length = n) (hr : RB w A c l) (hb : ∀ x ∈ l, 0 ≤ x ∧ x ≤ 255) (hl : n ≤ 1048576) (hi : i ≤ 1000) :
    Calls Try.prog 24 #[.slice A n c, .int .i64 z] w fun e w' => e = .returned (.int .i64 (atV l i)) ∧ w = w' := by
  subst hz
  by_cases hlt : i < l.length
  · obtain ⟨b, off, rfl, hb1, hb2⟩ := hr.at_ hlt
    have e1 : atV l i = l[i] := by simp [atV, hlt]
    have h255 := hb _ (List.getElem_mem hlt)
    rw [e1]
    generalize l[i] = v at *
    have hlt' : (i : Int) < n := by omega
    have hwr : IntKind.i64.wrap v = v := IntWalk.i64_in _ (by omega)
    have hin : i < n := by omega
    clear hr hb e1
    go_enter Try.func24, Try.ntmps24
    go_wp2_with fail
    go_ret
    exact ⟨rfl, rfl⟩
  · have e1 : atV l i = ((i : Int) * 31 + l.length * 7).tmod 256 := by simp [atV, hlt]
    have hlt' : ¬ (i : Int) < n := by omega
    rw [e1, hn]
    have w1 : IntKind.i64.wrap ((i : Int) * 31) = (i : Int) * 31 := IntWalk.i64_in _ (by omega)
    have w2 : IntKind.i64.wrap ((n : Int) * 7) = (n : Int) * 7 := IntWalk.i64_in _ (by omega)
    have w3 : IntKind.i64.wrap ((i : Int) * 31 + (n : Int) * 7) = (i : Int) * 31 + (n : Int) * 7 := IntWalk.i64_in _ (by omega)
    clear hr hb e1
    go_enter Try.func24, Try.ntmps24
    go_wp2_with fail
    go_ret
    exact ⟨rfl, rfl⟩
set_option maxHeartbeats 1000000 in
theorem sDrawSuc (w : World) (A : Option Addr) (n c : Nat) (l : List Int) (hn : l.length = n) (hr : RB w A c l) (hb : ∀ x ∈ l, 0 ≤ x ∧ x ≤ 255) (hl : n ≤ 1048576) :
    Calls Try.prog 101 #[.slice A n c] w fun e w' => ∃ a m x bb wd wt il rt dr s : Int, e = .returned (.tuple #[.agg #[.int .i64 a, .int .i64 m, .int .i64 x, .int .i64 bb, .int .i64 wd, .int .i64 wt, .int .i64 il, .int .i64 rt, .int .i64 dr], .int .i64 s]) ∧ BDs a m x bb wd wt il rt dr ∧ (0 ≤ s ∧ s < 50) ∧ Ext w w' := by
  have eR := Ext.alloc_ w (.cells #[.int .i64 0, .int .i64 0, .int .i64 0, .int .i64 0, .int .i64 0, .int .i64 0, .int .i64 0, .int .i64 0, .int .i64 0] 27)
  have R1 := Lib.hid (hr.ext eR)
  have ER := Lib.hid eR
  have bR := Lib.hid (new_blk1 w #[.int .i64 0, .int .i64 0, .int .i64 0, .int .i64 0, .int .i64 0, .int .i64 0, .int .i64 0, .int .i64 0, .int .i64 0] 27)
  clear eR hr
  go_enter Try.func101, Try.ntmps101
  go_wp2_with fail
  refine (sNew _ _ _ _ l hn R1.out hb hl).mono ?_
  rintro e w1 ⟨b, rfl, h1, h2, h3⟩
  have E1 := Lib.hid (Ext.trans ER.out h1)
  have C1 := Lib.hid h3
  have bR1 := Lib.hid (ext_blk h1 bR.out)
  have hbw : w.heap.size + 1 ≤ b := by simpa using h2
  clear h1 h2 h3 hn hb R1
  go_wp2_with fail
  refine (sAny15 _ _ C1.out).mono ?_
  rintro e w2 ⟨a, m, x, bb, wd, wt, il, rt, dr, rfl, hB, hD⟩
  have HB := Lib.hid hB
  have D2 := Lib.hid (hD.ext (Ext.alloc_ w2 (.cells #[.int .i64 a, .int .i64 m, .int .i64 x, .int .i64 bb, .int .i64 wd, .int .i64 wt, .int .i64 il, .int .i64 rt, .int .i64 dr] 27)))
  have b2 := Lib.hid (new_blk1 w2 #[.int .i64 a, .int .i64 m, .int .i64 x, .int .i64 bb, .int .i64 wd, .int .i64 wt, .int .i64 il, .int .i64 rt, .int .i64 dr] 27)
  have bR2 := Lib.hid (ext_blk (Ext.alloc_ w2 (.cells #[.int .i64 a, .int .i64 m, .int .i64 x, .int .i64 bb, .int .i64 wd, .int .i64 wt, .int .i64 il, .int .i64 rt, .int .i64 dr] 27)) (hD.blk bR1.out (by omega)))
  have hb2 : b < w2.heap.size := hD.2.lt
  clear hD hB bR1
  go_wp2_with fail
  refine C.wp_region_chain (R := relC b) 3 (by kernel_rfl) (by kernel_rfl) ?_
  simp only [List.take_succ_cons, List.take_zero, List.drop_succ_cons, List.drop_zero]
  (apply C.Chain.quiet (R := relC b); · (intro vs wq hEq hd; have b5 := XC.blk hEq b2.out (by omega); obtain ⟨c1, c2, c3⟩ := blk_cells b5; have e0 := c1 0; have e1 := c1 1; have e2 := c1 2; have e3 := c1 3; have e4 := c1 4; have e5 := c1 5; have e6 := c1 6; have e7 := c1 7; have e8 := c1 8; simp at e0 e1 e2 e3 e4 e5 e6 e7 e8; clear b5 c1 hEq hd; (try simp only [Act.put, C.SP.pick, C.SP.is, SPC.val, SPC.ints, id_eq, List.take_succ_cons, List.take_zero, List.drop_succ_cons, List.drop_zero, List.setIfInBounds_toArray, List.set_cons_zero, List.set_cons_succ]); refine C.growOp_go (R := relC b) ?_; go_simp; exact ⟨C.Ext.refl (R := relC b) _, rfl⟩))
  (apply C.Chain.quiet (R := relC b); · (intro vs wq hEq hd; clear hEq hd; (try simp only [Act.put, C.SP.pick, C.SP.is, SPC.val, SPC.ints, id_eq, List.take_succ_cons, List.take_zero, List.drop_succ_cons, List.drop_zero, List.setIfInBounds_toArray, List.set_cons_zero, List.set_cons_succ]); refine C.growOp_go (R := relC b) ?_; go_simp; exact ⟨C.Ext.refl (R := relC b) _, rfl⟩))
  refine C.Chain.sp (R := relC b) (SPC.val b (fun v => ∃ f : Int, v = .int .i64 f ∧ 0 ≤ f ∧ f < 50)) ?_ ?_
  · intro vs wq hEq hd
    have hC := Lib.hid (XC.cur hEq D2.out.2)
    clear hd hEq
    (try simp only [Act.put, C.SP.pick, C.SP.is, SPC.val, SPC.ints, id_eq, List.take_succ_cons, List.take_zero, List.drop_succ_cons, List.drop_zero, List.setIfInBounds_toArray, List.set_cons_zero, List.set_cons_succ])
    refine C.growOp_go (R := relC b) ?_
    go_simp
    refine (sBelow _ _ _ hC.out (by decide)).mono ?_
    rintro e w6 ⟨f, rfl, hf, hD⟩
    exact ⟨_, rfl, XC.of_drawn hD, f, rfl, hf.1, hf.2⟩
  refine C.Chain.done (R := relC b) ?_
  intro vs w3 hE3 hd3
  simp only [Act.put, C.SP.pick, C.SP.is, SPC.val, SPC.ints, id_eq, List.take_succ_cons, List.take_zero, List.drop_succ_cons, List.drop_zero, List.setIfInBounds_toArray, List.set_cons_zero, List.set_cons_succ]
  obtain ⟨f, e3, hf1, hf2⟩ := hd3 2
  rw [e3]
  have D3 := Lib.hid (Drawn.trans D2.out (XC.drawn hE3 D2.out.2))
  have bR3 := Lib.hid (XC.blk hE3 bR2.out (by omega))
  clear hd3 hE3 e3
  obtain ⟨y1, y2, y3⟩ := blk_cells bR3.out
  have q0 := y1 0
  have q1 := y1 1
  have q2 := y1 2
  have q3 := y1 3
  have q4 := y1 4
  have q5 := y1 5
  have q6 := y1 6
  have q7 := y1 7
  have q8 := y1 8
  simp at q0 q1 q2 q3 q4 q5 q6 q7 q8
  clear y1
  go_wp2_with fail
  refine bodyPost_ret (v := .tuple #[.agg #[.int .i64 a, .int .i64 m, .int .i64 x, .int .i64 bb, .int .i64 wd, .int .i64 wt, .int .i64 il, .int .i64 rt, .int .i64 dr], .int .i64 f]) (by clear D3 bR3 b2 bR2 D2 C1 E1 bR ER HB; simp [results, Try.results101, go_sem, *]) rfl ⟨a, m, x, bb, wd, wt, il, rt, dr, f, rfl, HB.out, ⟨hf1, hf2⟩, ?_⟩
  iterate 9 refine Ext.setCell_ ?_ (by simp <;> omega) _
  exact D3.out.1.ext E1.out (fun x hx => by omega)
theorem sDrawFail (w : World) (A : Option Addr) (n c : Nat) (l : List Int) (hn : l.length = n) (hr : RB w A c l) (hb : ∀ x ∈ l, 0 ≤ x ∧ x ≤ 255) (hl : n ≤ 1048576) :
    Calls Try.prog 29 #[.slice A n c] w fun e w' => ∃ a m x bb wd wt il rt dr s : Int, e = .returned (.tuple #[.agg #[.int .i64 a, .int .i64 m, .int .i64 x, .int .i64 bb, .int .i64 wd, .int .i64 wt, .int .i64 il, .int .i64 rt, .int .i64 dr], .int .i64 s]) ∧ BDs a m x bb wd wt il rt dr ∧ (0 ≤ s ∧ s < 50) ∧ Ext w w' := by
  have eR := Ext.alloc_ w (.cells #[.int .i64 0, .int .i64 0, .int .i64 0, .int .i64 0, .int .i64 0, .int .i64 0, .int .i64 0, .int .i64 0, .int .i64 0] 27)
  have R1 := Lib.hid (hr.ext eR)
  have ER := Lib.hid eR
  have bR := Lib.hid (new_blk1 w #[.int .i64 0, .int .i64 0, .int .i64 0, .int .i64 0, .int .i64 0, .int .i64 0, .int .i64 0, .int .i64 0, .int .i64 0] 27)
  clear eR hr
  go_enter Try.func29, Try.ntmps29
  go_wp2_with fail
  refine (sDrawSuc _ _ _ _ l hn R1.out hb hl).mono ?_
  rintro e w1 ⟨a, m, x, bb, wd, wt, il, rt, dr, s, rfl, hB, hs, hE⟩
  have HB := Lib.hid hB
  have bR1 := Lib.hid (ext_blk hE bR.out)
  have E1 := Lib.hid (Ext.trans ER.out hE)
  clear hE hB hn hb R1
  obtain ⟨y1, y2, y3⟩ := blk_cells bR1.out
  have q0 := y1 0
  have q1 := y1 1
  have q2 := y1 2
  have q3 := y1 3
  have q4 := y1 4
  have q5 := y1 5
  have q6 := y1 6
  have q7 := y1 7
  have q8 := y1 8
  simp at q0 q1 q2 q3 q4 q5 q6 q7 q8
  clear y1
  go_wp2_with fail
  refine bodyPost_ret (v := .tuple #[.agg #[.int .i64 a, .int .i64 m, .int .i64 x, .int .i64 bb, .int .i64 wd, .int .i64 wt, .int .i64 il, .int .i64 rt, .int .i64 dr], .int .i64 s]) (by clear bR1 E1 bR ER HB; simp [results, Try.results29, go_sem, *]) rfl ⟨a, m, x, bb, wd, wt, il, rt, dr, s, rfl, HB.out, hs, ?_⟩
  iterate 9 refine Ext.setCell_ ?_ (by simp <;> omega) _
  exact E1.out
end Go.Proofs.Ytkmklafjcjkpdaa
