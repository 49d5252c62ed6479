/- Draws for the law on fragments. -/
import Derived.Test.YtkmklafjcjkpdaaFrc
namespace Go.Proofs.Ytkmklafjcjkpdaa
open Go.RowKit
set_option linter.unusedVariables false
set_option linter.unusedSimpArgs false
def RngF (m M : Int) (v : Value) : Prop := ∃ f : Int, v = .int .i64 f ∧ m ≤ f ∧ f ≤ M
set_option maxHeartbeats 2000000 in
theorem sDrawFrg (w : World) (A0 : Option Addr) (n0 c0 : Nat) (l0 : List Int) (hn : l0.length = n0) (hr : RB w A0 c0 l0) (hb : ∀ x ∈ l0, 0 ≤ x ∧ x ≤ 255) (hl : n0 ≤ 1048576) :
    Calls Try.prog 81 #[.slice A0 n0 c0] w fun e w' => ∃ (kd fm ta sq fr : Int) (mo re : Bool) (du : Int) (G c : Nat) (l : List Int) (t : Int), e = .returned (.tuple #[.agg #[.int .i64 kd, .int .i64 fm, .int .i64 ta, .int .i64 sq, .int .i64 fr, .bool mo, .bool re, .int .i64 du, .slice (some ⟨G, 0, none⟩) l.length c], .int .i64 t]) ∧ l.length ≤ 32 ∧ (∀ x ∈ l, 0 ≤ x ∧ x ≤ 255) ∧ (0 ≤ t ∧ t ≤ 101) ∧ RB w' (some ⟨G, 0, none⟩) c l ∧ Ext w w' := by
  have eR := Ext.alloc_ w (.cells #[.int .i64 0, .int .i64 0, .int .i64 0, .int .i64 0, .int .i64 0, .bool false, .bool false, .int .i64 0, .slice none 0 0] 66)
  have R1 := Lib.hid (hr.ext eR)
  have ER := Lib.hid eR
  have bR := Lib.hid (new_blk1 w #[.int .i64 0, .int .i64 0, .int .i64 0, .int .i64 0, .int .i64 0, .bool false, .bool false, .int .i64 0, .slice none 0 0] 66)
  clear eR hr
  go_enter Try.func81, Try.ntmps81
  go_wp2_with fail
  refine (sNew _ _ _ _ l0 hn R1.out hb hl).mono ?_
  rintro e w1 ⟨b, rfl, h1, h2, h3⟩
  have E1 := Lib.hid (Ext.trans ER.out h1)
  have C1 := Lib.hid h3
  have bR1 := Lib.hid (ext_blk h1 bR.out)
  have hbw : w.heap.size + 1 ≤ b := by simpa using h2
  have hz1 : b < w1.heap.size := h3.lt
  clear h1 h2 h3 hn hb R1 ER bR
  go_wp2_with fail
  refine (sAny12 _ _ C1.out).mono ?_
  rintro e w3 ⟨kd, fm, ta, sq, fr, mo, re, du, g, A, c, bl, rfl, hF, hbb, hbl, hN, hD⟩
  have e3 := Ext.alloc_ w3 (.cells #[.int .i64 kd, .int .i64 fm, .int .i64 ta, .int .i64 sq, .int .i64 fr, .bool mo, .bool re, .int .i64 du, .slice A bl.length c] 66)
  have e4 := Ext.alloc_ (w3.alloc (.cells #[.int .i64 kd, .int .i64 fm, .int .i64 ta, .int .i64 sq, .int .i64 fr, .bool mo, .bool re, .int .i64 du, .slice A bl.length c] 66)) (.cells #[.int .i64 0, .int .i64 1, .int .i64 5, .int .i64 16, .int .i64 17, .int .i64 32] 3)
  have hL0 := cel_lit (w3.alloc (.cells #[.int .i64 kd, .int .i64 fm, .int .i64 ta, .int .i64 sq, .int .i64 fr, .bool mo, .bool re, .int .i64 du, .slice A bl.length c] 66)) 3 #[.int .i64 0, .int .i64 1, .int .i64 5, .int .i64 16, .int .i64 17, .int .i64 32]
  simp only [World.size_alloc] at hL0
  have hL := Lib.hid hL0
  have D4 := Lib.hid (hD.ext (Ext.trans e3 e4))
  have bR4 := Lib.hid (ext_blk (Ext.trans e3 e4) (hD.blk bR1.out (by omega)))
  have bF4 := Lib.hid (ext_blk e4 (new_blk1 w3 #[.int .i64 kd, .int .i64 fm, .int .i64 ta, .int .i64 sq, .int .i64 fr, .bool mo, .bool re, .int .i64 du, .slice A bl.length c] 66))
  have hg3 : w1.heap.size ≤ w3.heap.size := hD.1.size
  generalize bl.length = nb at *
  clear hF hbb hbl hN hD e3 e4 hL0 C1 bR1
  go_wp2_with fail
  generalize World.alloc (World.alloc w3 _) _ = w4 at *
  generalize w3.heap.size = gf at *
  refine (sOneOf _ _ _ _ _ [0, 1, 5, 16, 17, 32] D4.out.2 rfl (by simp) hL.out (fun b' o' h => by injection h with h; injection h with h; omega)).mono ?_
  rintro e w5 ⟨n, rfl, hn, hD⟩
  have hn32 : 0 ≤ n ∧ n ≤ 32 := by simp at hn; omega
  have D5 := Lib.hid (D4.out.trans hD)
  have bR5 := Lib.hid (hD.blk bR4.out (by omega))
  have bF5 := Lib.hid (hD.blk bF4.out (by omega))
  clear hD hn D4 bR4 bF4 hL
  go_wp2_with fail
  refine (sBytesS _ _ _ D5.out.2 (by omega)).mono ?_
  rintro e w6 ⟨gn, G, cb, l, rfl, hll, hlb, hN, hD⟩
  have D6 := Lib.hid (D5.out.trans hD)
  have bR6 := Lib.hid (hD.blk bR5.out (by omega))
  have bF6 := Lib.hid (hD.blk bF5.out (by omega))
  have hgf : gf < w5.heap.size := heap_lt bF5.out
  obtain ⟨N, hNN⟩ : ∃ N, N = l.length := ⟨_, rfl⟩
  have HN := Lib.hid hNN
  rw [← hNN] at hll ⊢
  have HB := Lib.hid hlb
  have bF7 := blk_set bF6.out 8 (.slice (some ⟨G, 0, none⟩) N cb)
  simp only [List.setIfInBounds_toArray, List.set_cons_zero, List.set_cons_succ] at bF7
  have bF7 := Lib.hid bF7
  have bR7 := Lib.hid (set_blk (p := ⟨gf, 8, none⟩) (u := .slice (some ⟨G, 0, none⟩) N cb) bR6.out (by simp; omega))
  have D7 := Lib.hid (Drawn.set_ (p := ⟨gf, 8, none⟩) D6.out (by simp; omega) (by simp; omega) (.slice (some ⟨G, 0, none⟩) N cb))
  have N7 := Lib.hid (hN.set_ (p := ⟨gf, 8, none⟩) (by simp; omega) (.slice (some ⟨G, 0, none⟩) N cb))
  obtain ⟨x1, x2, x3⟩ := blk_cells (bF6.out)
  have p0 := x1 0
  have p1 := x1 1
  have p2 := x1 2
  have p3 := x1 3
  have p4 := x1 4
  have p5 := x1 5
  have p6 := x1 6
  have p7 := x1 7
  have p8 := x1 8
  simp at p0 p1 p2 p3 p4 p5 p6 p7 p8
  clear x1
  clear hD hN hNN hlb D5 bR5 bF5 D6 bR6 bF6
  go_wp2_with fail
  generalize World.setCell w6 _ _ = w7 at *
  clear p0 p1 p2 p3 p4 p5 p6 p7 p8 x2 x3
  have hB7 : b < gf := by omega
  refine C.wp_region_chain (R := relC b) 4 (by kernel_rfl) (by kernel_rfl) ?_
  simp only [List.take_succ_cons, List.take_zero, List.drop_succ_cons, List.drop_zero]
  · (apply C.Chain.quiet (R := relC b); · (intro vs wq hEq hd; have b5 := XC.blk hEq bF7.out (by omega); obtain ⟨c1, c2, c3⟩ := blk_cells b5; have e0 := c1 0; have e1 := c1 1; have e2 := c1 2; have e3 := c1 3; have e4 := c1 4; have e5 := c1 5; have e6 := c1 6; have e7 := c1 7; have e8 := c1 8; simp at e0 e1 e2 e3 e4 e5 e6 e7 e8; clear b5 c1 hEq hd; (try simp only [Act.put, C.SP.pick, C.SP.is, SPC.val, SPC.ints, id_eq, List.take_succ_cons, List.take_zero, List.drop_succ_cons, List.drop_zero, List.setIfInBounds_toArray, List.set_cons_zero, List.set_cons_succ]); refine C.growOp_go (R := relC b) ?_; go_simp; exact ⟨C.Ext.refl (R := relC b) _, rfl⟩))
    (apply C.Chain.quiet (R := relC b); · (intro vs wq hEq hd; clear hEq hd; (try simp only [Act.put, C.SP.pick, C.SP.is, SPC.val, SPC.ints, id_eq, List.take_succ_cons, List.take_zero, List.drop_succ_cons, List.drop_zero, List.setIfInBounds_toArray, List.set_cons_zero, List.set_cons_succ]); refine C.growOp_go (R := relC b) ?_; go_simp; exact ⟨C.Ext.refl (R := relC b) _, rfl⟩))
    refine C.Chain.sp (R := relC b) (SPC.ints b [0, 1, 2, 3, 7, 100, 101]) ?_ ?_
    · intro vs wq hEq hd
      have hz : b < wq.heap.size := by have := XC.size hEq; have := heap_lt bF7.out; omega
      clear hd hEq
      (try simp only [Act.put, C.SP.pick, C.SP.is, SPC.val, SPC.ints, id_eq, List.take_succ_cons, List.take_zero, List.drop_succ_cons, List.drop_zero, List.setIfInBounds_toArray, List.set_cons_zero, List.set_cons_succ])
      refine C.growOp_go (R := relC b) ?_
      go_simp
      exact ⟨XC.of_ext (Ext.alloc_ _ _), cel_lit wq 3 #[.int .i64 0, .int .i64 1, .int .i64 2, .int .i64 3, .int .i64 7, .int .i64 100, .int .i64 101], fun h => by omega⟩
    refine C.Chain.sp (R := relC b) (SPC.val b (RngF 0 101)) ?_ ?_
    · intro vs wq hEq hd
      obtain ⟨A7, e7, h7, g7⟩ := hd 2 (by kernel_rfl)
      have hC := Lib.hid (XC.cur hEq D7.out.2)
      have h7' := Lib.hid h7
      have g7' := Lib.hid g7
      clear hd h7 g7 hEq
      simp only [Act.put, C.SP.pick, C.SP.is, SPC.val, SPC.ints, id_eq, List.take_succ_cons, List.take_zero, List.drop_succ_cons, List.drop_zero, List.setIfInBounds_toArray, List.set_cons_zero, List.set_cons_succ]
      rw [e7]
      refine C.growOp_go (R := relC b) ?_
      clear e7
      go_simp
      refine (sOneOf _ _ _ _ _ [0, 1, 2, 3, 7, 100, 101] hC.out rfl (by decide) h7'.out g7'.out).mono ?_
      rintro e w6 ⟨f, rfl, hf, hD⟩
      exact ⟨_, rfl, XC.of_drawn hD, f, rfl, by simp at hf; omega, by simp at hf; omega⟩
    refine C.Chain.done (R := relC b) ?_
    intro vs w8 hE8 hd8
    simp only [Act.put, C.SP.pick, C.SP.is, SPC.val, SPC.ints, id_eq, List.take_succ_cons, List.take_zero, List.drop_succ_cons, List.drop_zero, List.setIfInBounds_toArray, List.set_cons_zero, List.set_cons_succ]
    obtain ⟨t, e3, ht1, ht2⟩ := hd8 3
    rw [e3]
    have D8 := Lib.hid (Drawn.trans D7.out (XC.drawn hE8 D7.out.2))
    have bR8 := Lib.hid (XC.blk hE8 bR7.out (by omega))
    have N8 := Lib.hid (N7.out.chg (XC.chg hE8) (fun y hy h => by omega))
    clear hd8 hE8 e3 D7 bR7 bF7 N7
    obtain ⟨y1, y2, y3⟩ := blk_cells (bR8.out)
    have q0 := y1 0
    have q1 := y1 1
    have q2 := y1 2
    have q3 := y1 3
    have q4 := y1 4
    have q5 := y1 5
    have q6 := y1 6
    have q7 := y1 7
    have q8 := y1 8
    simp at q0 q1 q2 q3 q4 q5 q6 q7 q8
    clear y1
    go_wp2_with fail
    refine bodyPost_ret (v := .tuple #[.agg #[.int .i64 kd, .int .i64 fm, .int .i64 ta, .int .i64 sq, .int .i64 fr, .bool mo, .bool re, .int .i64 du, .slice (some ⟨G, 0, none⟩) N cb], .int .i64 t]) (by clear E1 D8 bR8 N8 HN HB; simp [results, Try.results81, go_sem, *]) rfl ⟨kd, fm, ta, sq, fr, mo, re, du, G, cb, l, t, by rw [HN.out], by have := HN.out; omega, HB.out, ⟨ht1, ht2⟩, ?_, ?_⟩
    · have key : ∀ W, NewB W w5.heap.size gn (some ⟨G, 0, none⟩) cb l → RB W (some ⟨G, 0, none⟩) cb l := fun W h => h.rb
      refine key _ ?_
      iterate 9 refine NewB.set_ ?_ (by simp; omega) _
      exact N8.out
    · iterate 9 refine Ext.setCell_ ?_ (by simp) _
      exact D8.out.1.ext E1.out (fun x hx => by omega)
end Go.Proofs.Ytkmklafjcjkpdaa
