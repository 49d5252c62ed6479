/- Draws of placements with senders and receivers. -/
import Derived.Test.YtkmklafjcjkpdaaCaD
namespace Go.Proofs.Ytkmklafjcjkpdaa
open Go.RowKit
set_option linter.unusedVariables false
set_option linter.unusedSimpArgs false
/-- A row of numbers between two marks of the heap. -/
def OwnJ (w : World) (lo hi : Nat) (v : Value) (P : List Int) : Prop := OwnI w lo v P ∧ ∀ G, v.ownBlock = some G → G < hi
theorem OwnJ.of {w : World} {lo : Nat} {v : Value} {P : List Int} (h : OwnI w lo v P) : OwnJ w lo w.heap.size v P := ⟨h, fun G hG => (World.ownsRow.lt h G hG).2⟩
theorem OwnJ.chg {w w' : World} {lo hi : Nat} {v : Value} {P : List Int} {S : Nat → Prop} (h : OwnJ w lo hi v P) (hc : Chg w w' S) (hS : ∀ y, lo ≤ y → y < hi → ¬ S y) : OwnJ w' lo hi v P := by
  refine ⟨⟨h.1.1, h.1.2.imp_right ?_⟩, h.2⟩
  rintro ⟨g, cap, cur, rfl, a, b, c⟩
  exact ⟨g, cap, cur, rfl, a, by rw [hc.block g (heap_lt b) (hS g a (h.2 g rfl))]; exact b, c⟩
theorem OwnJ.open_ {w : World} {lo hi n c : Nat} {A : Option Addr} {P : List Int} (h : OwnJ w lo hi (.slice A n c) P) (h0 : P ≠ []) : ∃ G, A = some ⟨G, 0, none⟩ ∧ lo ≤ G ∧ G < hi ∧ w.frozen? ⟨G, 0, none⟩ = false ∧ (w.cell? ⟨G, 0, none⟩).isSome = true := by
  obtain ⟨⟨hl, h1⟩, h2⟩ := h
  rcases h1 with ⟨h3, h4⟩ | ⟨g, cap, cur, h3, hB, hg, hc, hm, hs, ht⟩
  · exact absurd (List.eq_nil_of_length_eq_zero h4) h0
  · injection h3 with q1 q2 q3
    subst q1
    obtain ⟨x1, x2, x3⟩ := blk_cells hg
    refine ⟨g, rfl, hB, h2 g rfl, x2 0, ?_⟩
    rw [x1 0]
    have hp : 0 < P.length := List.length_pos_iff.2 h0
    rw [Array.getElem?_eq_getElem (by omega)]
    rfl
theorem OwnI.set0 {w : World} {B G n c : Nat} {P : List Int} (h : OwnI w B (.slice (some ⟨G, 0, none⟩) n c) P) (h0 : 0 < P.length) (z : Int) : OwnI (w.setCell ⟨G, 0, none⟩ (.int .i64 z)) B (.slice (some ⟨G, 0, none⟩) n c) (P.set 0 z) := by
  refine ⟨by simp, ?_⟩
  rcases h.2 with ⟨h1, _⟩ | ⟨g, cap, cur, h1, h2, h3, h4, h5, h6, h7⟩
  · cases h1
  · injection h1 with q1 q2 q3
    injection q1 with q1
    injection q1 with q1
    subst q1 q3
    refine .inr ⟨G, c, _, by rw [List.length_set, q2], h2, blk_set h3 0 (.int .i64 z), by rw [List.length_set]; exact h4, h5, by simpa using h6, ?_⟩
    rw [Array.toList_setIfInBounds, List.take_set, List.length_set, h7, List.map_set]
theorem chg_set {w w' : World} {S : Nat → Prop} (h : Chg w w' S) {p : Addr} (hp : S p.block) (u : Value) : Chg w (w'.setCell p u) S := Chg.set h hp u
def RngQ (m M : Int) (v : Value) : Prop := ∃ f : Int, v = .int .i64 f ∧ m ≤ f ∧ f ≤ M
set_option maxHeartbeats 4000000 in
theorem sAny13 (w : World) (b : Nat) (hC : Cur w b) :
    Calls Try.prog 148 #[.pointer (some ⟨b, 0, none⟩)] w fun e w' => ∃ (A : Option Addr) (c : Nat) (P : List Int) (rg sn : Int), e = .returned (.agg #[.slice A P.length c, .int .i64 rg, .int .i64 sn]) ∧ P.length ≤ 17 ∧ OwnI w' w.heap.size (.slice A P.length c) P ∧ Drawn w w' b := by
  have hlt := hC.lt
  have D0 := Lib.hid (Drawn.of_ext hC (Ext.alloc_ w (.cells #[.slice none 0 0, .int .i64 0, .int .i64 0] 74)))
  have bR0 := Lib.hid (new_blk1 w #[.slice none 0 0, .int .i64 0, .int .i64 0] 74)
  clear hC
  go_enter Try.func148, Try.ntmps148
  go_wp2_with fail
  refine (sPlace _ _ D0.out.2).mono ?_
  rintro e w1 ⟨A, c, P, rg, sn, rfl, hP1, hrs, hO, hD⟩
  obtain ⟨N, hN⟩ : ∃ N, N = P.length := ⟨_, rfl⟩
  have HN := Lib.hid hN
  rw [← hN] at hO hP1 ⊢
  have e1 := Ext.alloc_ w1 (.cells #[.slice A N c, .int .i64 rg, .int .i64 sn] 74)
  have D1 := Lib.hid ((D0.out.trans hD).ext e1)
  have bR1 := Lib.hid (ext_blk e1 (hD.blk bR0.out (by omega)))
  have bP1 := Lib.hid (new_blk1 w1 #[.slice A N c, .int .i64 rg, .int .i64 sn] 74)
  have hg1 : w.heap.size < w1.heap.size := by have := hD.1.size; simp at this; omega
  have J1 := Lib.hid (OwnJ.of hO)
  have C1 := Lib.hid (Chg.of_ext (fun y => y < w.heap.size + 1 ∨ w1.heap.size ≤ y) e1)
  have hzz : ((w.alloc (.cells #[.slice none 0 0, .int .i64 0, .int .i64 0] 74)).heap.size) = w.heap.size + 1 := by simp
  rw [hzz] at J1
  clear hD hO e1 D0 bR0 hN hzz
  have J1' := Lib.hid (J1.out.chg C1.out (fun y h1 h2 h3 => by omega))
  clear J1 C1
  go_wp2_with fail
  generalize World.alloc w1 _ = w2 at *
  generalize w1.heap.size = g at *
  refine (sBelow _ _ _ D1.out.2 (by decide)).mono ?_
  rintro e w3 ⟨k, rfl, hk, hD⟩
  have D3 := Lib.hid (D1.out.trans hD)
  have bP3 := Lib.hid (hD.blk bP1.out (by omega))
  have bR3 := Lib.hid (hD.blk bR1.out (by omega))
  have J3 := Lib.hid (J1'.out.chg (hD.1.mono (fun x hx => .inl (hx ▸ (by omega))) : Chg w2 w3 (fun y => y < w.heap.size + 1 ∨ g ≤ y)) (fun y h1 h2 h3 => by omega))
  clear hD D1 bP1 bR1 J1'
  obtain ⟨x1, x2, x3⟩ := blk_cells (bP3.out)
  have p0 := x1 0
  have p1 := x1 1
  have p2 := x1 2
  simp at p0 p1 p2
  clear x1
  obtain ⟨y1, y2, y3⟩ := blk_cells (bR3.out)
  have q0 := y1 0
  have q1 := y1 1
  have q2 := y1 2
  simp at q0 q1 q2
  clear y1
  by_cases k0 : k = 0
  · subst k0
    obtain ⟨G, rfl, hG1, hG2, hGf, hGc⟩ := J3.out.open_ (by intro h; have := HN.out; rw [h] at this; simp at this; omega)
    have hGb : G ≠ b := by omega
    have hN0 : (0 : Int) < (N : Int) := by omega
    have hN0' : 0 < N := by omega
    go_wp2_with fail
    refine C.wp_region_chain (R := relC b) 6 (by kernel_rfl) (by kernel_rfl) ?_
    simp only [List.take_succ_cons, List.take_zero, List.drop_succ_cons, List.drop_zero]
    · (apply C.Chain.quiet (R := relC b); · (intro vs wq hEq hd; clear hEq hd; (try simp only [Act.put, C.SP.pick, C.SP.is, SPC.val, SPC.ints, id_eq, List.take_succ_cons, List.take_zero, List.drop_succ_cons, List.drop_zero, List.setIfInBounds_toArray, List.set_cons_zero, List.set_cons_succ]); refine C.growOp_go (R := relC b) ?_; go_simp; exact ⟨C.Ext.refl (R := relC b) _, rfl⟩))
      (apply C.Chain.quiet (R := relC b); · (intro vs wq hEq hd; have b5 := XC.blk hEq bP3.out (by omega); obtain ⟨c1, c2, c3⟩ := blk_cells b5; have e0 := c1 0; have e1 := c1 1; have e2 := c1 2; simp at e0 e1 e2; clear b5 c1 hEq hd; (try simp only [Act.put, C.SP.pick, C.SP.is, SPC.val, SPC.ints, id_eq, List.take_succ_cons, List.take_zero, List.drop_succ_cons, List.drop_zero, List.setIfInBounds_toArray, List.set_cons_zero, List.set_cons_succ]); refine C.growOp_go (R := relC b) ?_; go_simp; exact ⟨C.Ext.refl (R := relC b) _, rfl⟩))
      (apply C.Chain.quiet (R := relC b); · (intro vs wq hEq hd; clear hEq hd; (try simp only [Act.put, C.SP.pick, C.SP.is, SPC.val, SPC.ints, id_eq, List.take_succ_cons, List.take_zero, List.drop_succ_cons, List.drop_zero, List.setIfInBounds_toArray, List.set_cons_zero, List.set_cons_succ]); refine C.growOp_go (R := relC b) ?_; go_simp; exact ⟨C.Ext.refl (R := relC b) _, rfl⟩))
      refine C.Chain.sp (R := relC b) (SPC.ints b [-1, 1000, 1001]) ?_ ?_
      · intro vs wq hEq hd
        have hz : b < wq.heap.size := by have := XC.size hEq; have := heap_lt bP3.out; omega
        clear hd hEq
        (try simp only [Act.put, C.SP.pick, C.SP.is, SPC.val, SPC.ints, id_eq, List.take_succ_cons, List.take_zero, List.drop_succ_cons, List.drop_zero, List.setIfInBounds_toArray, List.set_cons_zero, List.set_cons_succ])
        refine C.growOp_go (R := relC b) ?_
        go_simp
        exact ⟨XC.of_ext (Ext.alloc_ _ _), cel_lit wq 3 #[.int .i64 (-1), .int .i64 1000, .int .i64 1001], fun h => by omega⟩
      refine C.Chain.sp (R := relC b) (SPC.val b (RngQ (-1) 1001)) ?_ ?_
      · intro vs wq hEq hd
        obtain ⟨A7, e7, h7, g7⟩ := hd 3 (by kernel_rfl)
        have hC := Lib.hid (XC.cur hEq D3.out.2)
        have h7' := Lib.hid h7
        have g7' := Lib.hid g7
        clear hd h7 g7 hEq
        simp only [Act.put, C.SP.pick, C.SP.is, SPC.val, SPC.ints, id_eq, List.take_succ_cons, List.take_zero, List.drop_succ_cons, List.drop_zero, List.setIfInBounds_toArray, List.set_cons_zero, List.set_cons_succ]
        rw [e7]
        refine C.growOp_go (R := relC b) ?_
        clear e7
        go_simp
        refine (sOneOf _ _ _ _ _ [-1, 1000, 1001] hC.out rfl (by decide) h7'.out g7'.out).mono ?_
        rintro e w6 ⟨f, rfl, hf, hD⟩
        exact ⟨_, rfl, XC.of_drawn hD, f, rfl, by simp at hf; omega, by simp at hf; omega⟩
      (apply C.Chain.quiet (R := relC b); · (intro vs wq hEq hd; clear hEq hd; (try simp only [Act.put, C.SP.pick, C.SP.is, SPC.val, SPC.ints, id_eq, List.take_succ_cons, List.take_zero, List.drop_succ_cons, List.drop_zero, List.setIfInBounds_toArray, List.set_cons_zero, List.set_cons_succ]); refine C.growOp_go (R := relC b) ?_; go_simp; exact ⟨C.Ext.refl (R := relC b) _, rfl⟩))
      refine C.Chain.done (R := relC b) ?_
      intro vs w6 hE6 hd6
      simp only [Act.put, C.SP.pick, C.SP.is, SPC.val, SPC.ints, id_eq, List.take_succ_cons, List.take_zero, List.drop_succ_cons, List.drop_zero, List.setIfInBounds_toArray, List.set_cons_zero, List.set_cons_succ]
      obtain ⟨z, e3, hz1, hz2⟩ := hd6 4
      rw [e3]
      have D6 := Lib.hid (Drawn.trans D3.out (XC.drawn hE6 D3.out.2))
      have bP6 := Lib.hid (XC.blk hE6 bP3.out (by omega))
      have bR6 := Lib.hid (XC.blk hE6 bR3.out (by omega))
      have J6 := Lib.hid (J3.out.chg (XC.chg hE6) (fun y h1 h2 h3 => by omega))
      have hf6 : w6.frozen? ⟨G, 0, none⟩ = false ∧ (w6.cell? ⟨G, 0, none⟩).isSome = true := by
        obtain ⟨G', hq, -, -, h1, h2⟩ := J6.out.open_ (by intro h; have := HN.out; rw [h] at this; simp at this; omega)
        injection hq with hq
        injection hq with hq
        subst hq
        exact ⟨h1, h2⟩
      obtain ⟨hf6a, hf6b⟩ := hf6
      obtain ⟨cv, hcv⟩ := Option.isSome_iff_exists.1 hf6b
      have O6 := Lib.hid (OwnI.set0 J6.out.1 (by have := HN.out; omega) z)
      have bP7 := Lib.hid (set_blk (p := ⟨G, 0, none⟩) (u := .int .i64 z) bP6.out (Nat.ne_of_gt hG2))
      have bR7 := Lib.hid (set_blk (p := ⟨G, 0, none⟩) (u := .int .i64 z) bR6.out (by simp; omega))
      have D7 := Lib.hid (Drawn.set_ (p := ⟨G, 0, none⟩) D6.out (by simp; omega) (by simp; omega) (.int .i64 z))
      have HN2 := Lib.hid (show N = (P.set 0 z).length by rw [List.length_set]; exact HN.out)
      obtain ⟨Q, hQ⟩ : ∃ Q, Q = P.set 0 z := ⟨_, rfl⟩
      rw [← hQ] at O6 HN2
      have n1 : G ≠ g := by omega
      have n2 : g ≠ G := by omega
      have n3 : G ≠ w.heap.size := by omega
      have n4 : w.heap.size ≠ G := by omega
      clear hd6 hE6 e3 D3 bP3 bR3 J3 J6 D6 bP7 bR7 p0 p1 p2 x2 x3 q0 q1 q2 y2 y3 hf6b hQ hGf hGc
      obtain ⟨x1, x2, x3⟩ := blk_cells (bP6.out)
      have p0 := x1 0
      have p1 := x1 1
      have p2 := x1 2
      simp at p0 p1 p2
      clear x1
      obtain ⟨y1, y2, y3⟩ := blk_cells (bR6.out)
      have q0 := y1 0
      have q1 := y1 1
      have q2 := y1 2
      simp at q0 q1 q2
      clear y1
      go_wp2_with fail
      refine bodyPost_ret (v := .agg #[.slice (some ⟨G, 0, none⟩) N c, .int .i64 rg, .int .i64 sn]) (by clear D7 bP6 bR6 O6 HN HN2; simp [results, Try.results148, go_sem, *]) rfl ⟨_, c, Q, rg, sn, by rw [HN2.out], by have := HN2.out; omega, ?_, ?_⟩
      · rw [← HN2.out]
        refine OwnI.base (B := w.heap.size + 1) ?_ (by omega)
        iterate 3 refine OwnI.setb ?_ (by simp <;> omega) _
        exact O6.out
      · iterate 3 refine Drawn.set_ ?_ (by simp <;> omega) (by simp <;> omega) _
        exact D7.out
  have key : ∀ (w7 : World), OwnJ w7 (w.heap.size + 1) g (.slice A N c) P → OwnI w7 (w.heap.size + 1) (.slice A N c) P := fun w7 h => h.1
  by_cases k1 : k = 1
  · subst k1
    have hw : IntKind.i64.wrap (sn + 1) = sn + 1 := IntWalk.i64_in _ (by omega)
    have e4 := Ext.alloc_ w3 (.cells #[.int .i64 0, .int .i64 sn, .int .i64 (sn + 1)] 3)
    have hL := Lib.hid (cel_lit w3 3 #[.int .i64 0, .int .i64 sn, .int .i64 (sn + 1)])
    go_wp2_with fail
    refine (sOneOf _ _ _ _ _ [0, sn, sn + 1] (D3.out.2.ext e4) rfl (by simp) hL.out (fun b' o' h => by injection h with h; injection h with h; have := D3.out.2.lt; omega)).mono ?_
    rintro e w4 ⟨z, rfl, -, hD⟩
    have D4 := Lib.hid (D3.out.trans (Drawn.trans (Drawn.of_ext D3.out.2 e4) hD))
    have bP4 := Lib.hid (hD.blk (ext_blk e4 bP3.out) (by omega))
    have bR4 := Lib.hid (hD.blk (ext_blk e4 bR3.out) (by omega))
    have J4 := Lib.hid (J3.out.chg ((Chg.of_ext (fun y => y < w.heap.size + 1 ∨ g ≤ y) e4).trans (hD.1.mono (fun x hx => .inl (hx ▸ (by omega))))) (fun y h1 h2 h3 => by omega))
    clear hD D3 bP3 bR3 J3 e4 hL p0 p1 p2 x2 x3 q0 q1 q2 y2 y3
    obtain ⟨x1, x2, x3⟩ := blk_cells (bP4.out)
    have p0 := x1 0
    have p1 := x1 1
    have p2 := x1 2
    simp at p0 p1 p2
    clear x1
    obtain ⟨y1, y2, y3⟩ := blk_cells (bR4.out)
    have q0 := y1 0
    have q1 := y1 1
    have q2 := y1 2
    simp at q0 q1 q2
    clear y1
    go_wp2_with fail
    refine bodyPost_ret (v := .agg #[.slice A N c, .int .i64 z, .int .i64 sn]) (by clear D4 bP4 bR4 J4 HN; simp [results, Try.results148, go_sem, *]) rfl ⟨A, c, P, _, _, by rw [HN.out], by have := HN.out; omega, ?_, ?_⟩
    · rw [← HN.out]
      refine OwnI.base (B := w.heap.size + 1) (OwnJ.chg (lo := w.heap.size + 1) (hi := g) (S := fun y => y < w.heap.size + 1 ∨ g ≤ y) J4.out ?_ (fun y h1 h2 h3 => by omega)).1 (by omega)
      iterate 4 refine chg_set ?_ (by simp <;> omega) _
      exact Chg.refl _ _
    · iterate 4 refine Drawn.set_ ?_ (by simp <;> omega) (by simp <;> omega) _
      exact D4.out
  by_cases k2 : k = 2
  · subst k2
    have e4 := Ext.alloc_ w3 (.cells #[.int .i64 0, .int .i64 1000, .int .i64 1001] 3)
    have hL := Lib.hid (cel_lit w3 3 #[.int .i64 0, .int .i64 1000, .int .i64 1001])
    go_wp2_with fail
    refine (sOneOf _ _ _ _ _ [0, 1000, 1001] (D3.out.2.ext e4) rfl (by simp) hL.out (fun b' o' h => by injection h with h; injection h with h; have := D3.out.2.lt; omega)).mono ?_
    rintro e w4 ⟨z, rfl, -, hD⟩
    have D4 := Lib.hid (D3.out.trans (Drawn.trans (Drawn.of_ext D3.out.2 e4) hD))
    have bP4 := Lib.hid (hD.blk (ext_blk e4 bP3.out) (by omega))
    have bR4 := Lib.hid (hD.blk (ext_blk e4 bR3.out) (by omega))
    have J4 := Lib.hid (J3.out.chg ((Chg.of_ext (fun y => y < w.heap.size + 1 ∨ g ≤ y) e4).trans (hD.1.mono (fun x hx => .inl (hx ▸ (by omega))))) (fun y h1 h2 h3 => by omega))
    clear hD D3 bP3 bR3 J3 e4 hL p0 p1 p2 x2 x3 q0 q1 q2 y2 y3
    obtain ⟨x1, x2, x3⟩ := blk_cells (bP4.out)
    have p0 := x1 0
    have p1 := x1 1
    have p2 := x1 2
    simp at p0 p1 p2
    clear x1
    obtain ⟨y1, y2, y3⟩ := blk_cells (bR4.out)
    have q0 := y1 0
    have q1 := y1 1
    have q2 := y1 2
    simp at q0 q1 q2
    clear y1
    go_wp2_with fail
    refine bodyPost_ret (v := .agg #[.slice A N c, .int .i64 rg, .int .i64 z]) (by clear D4 bP4 bR4 J4 HN; simp [results, Try.results148, go_sem, *]) rfl ⟨A, c, P, _, _, by rw [HN.out], by have := HN.out; omega, ?_, ?_⟩
    · rw [← HN.out]
      refine OwnI.base (B := w.heap.size + 1) (OwnJ.chg (lo := w.heap.size + 1) (hi := g) (S := fun y => y < w.heap.size + 1 ∨ g ≤ y) J4.out ?_ (fun y h1 h2 h3 => by omega)).1 (by omega)
      iterate 4 refine chg_set ?_ (by simp <;> omega) _
      exact Chg.refl _ _
    · iterate 4 refine Drawn.set_ ?_ (by simp <;> omega) (by simp <;> omega) _
      exact D4.out
  by_cases k3 : k = 3
  · subst k3
    have e4 := Ext.alloc_ w3 (.cells #[.int .i64 0, .int .i64 16, .int .i64 17] 3)
    have hL := Lib.hid (cel_lit w3 3 #[.int .i64 0, .int .i64 16, .int .i64 17])
    go_wp2_with fail
    refine (sOneOf _ _ _ _ _ [0, 16, 17] (D3.out.2.ext e4) rfl (by simp) hL.out (fun b' o' h => by injection h with h; injection h with h; have := D3.out.2.lt; omega)).mono ?_
    rintro e w4 ⟨z, rfl, hz, hD⟩
    obtain ⟨n, rfl⟩ : ∃ n : Nat, z = (n : Int) := ⟨z.toNat, by simp at hz; omega⟩
    have hn17 : n ≤ 17 := by simp at hz; omega
    have hmk := fun W => make_one elInt (z := .int .i64 0) (by kernel_rfl) rfl n (by omega) (by omega) W
    have D4 := Lib.hid (D3.out.trans (Drawn.trans (Drawn.of_ext D3.out.2 e4) hD))
    have bP4 := Lib.hid (hD.blk (ext_blk e4 bP3.out) (by omega))
    have bR4 := Lib.hid (hD.blk (ext_blk e4 bR3.out) (by omega))
    obtain ⟨row, hrow⟩ : ∃ r, r = (List.replicate n (Value.int .i64 0)).toArray := ⟨_, rfl⟩
    rw [← hrow] at hmk
    have hwz : w.heap.size + 1 ≤ w4.heap.size := by have := heap_lt bP4.out; omega
    have H5 := Lib.hid (show ∀ W : World, W.heap.size = w4.heap.size → OwnI (W.alloc (.cells row 3)) w4.heap.size (.slice (some ⟨w4.heap.size, 0, none⟩) n n) (List.replicate n 0) by
      intro W hW
      have h := OwnI.lit (w := W) (B := w4.heap.size) (List.replicate n 0) (by omega) (by simp; unfold maxLen; omega)
      rw [hrow, ← hW]
      rw [← hW] at h
      simpa using h)
    have hg4 : g < w4.heap.size := heap_lt bP4.out
    clear hD hz D3 bP3 bR3 J3 e4 hL p0 p1 p2 x2 x3 q0 q1 q2 y2 y3 hrow key
    obtain ⟨x1, x2, x3⟩ := blk_cells (bP4.out)
    have p0 := x1 0
    have p1 := x1 1
    have p2 := x1 2
    simp at p0 p1 p2
    clear x1
    obtain ⟨y1, y2, y3⟩ := blk_cells (bR4.out)
    have q0 := y1 0
    have q1 := y1 1
    have q2 := y1 2
    simp at q0 q1 q2
    clear y1
    go_wp2_with fail
    refine bodyPost_ret (v := .agg #[.slice (some ⟨w4.heap.size, 0, none⟩) n n, .int .i64 rg, .int .i64 sn]) (by clear D4 bP4 bR4 H5 HN hmk; simp [results, Try.results148, go_sem, *]) rfl ⟨_, n, List.replicate n 0, rg, sn, by rw [List.length_replicate], by simpa using hn17, ?_, ?_⟩
    · rw [List.length_replicate]
      exact OwnI.base (H5.out _ (by simp)) (by omega)
    · refine Drawn.ext ?_ (Ext.alloc_ _ _)
      iterate 4 refine Drawn.set_ ?_ (by simp <;> omega) (by simp <;> omega) _
      exact D4.out
  go_wp2_with fail
  refine bodyPost_ret (v := .agg #[.slice A N c, .int .i64 rg, .int .i64 sn]) (by clear D3 bP3 bR3 J3 HN; simp [results, Try.results148, go_sem, *]) rfl ⟨A, c, P, rg, sn, by rw [HN.out], by have := HN.out; omega, ?_, ?_⟩
  · rw [← HN.out]
    refine OwnI.base (B := w.heap.size + 1) ?_ (by omega)
    iterate 3 refine OwnI.setb ?_ (by simp <;> omega) _
    exact J3.out.1
  · iterate 3 refine Drawn.set_ ?_ (by simp <;> omega) (by simp <;> omega) _
    exact D3.out
end Go.Proofs.Ytkmklafjcjkpdaa
