/- Draws of a list of remembered frames and a frame. -/
import Derived.Test.YtkmklafjcjkpdaaSeD
namespace Go.Proofs.Ytkmklafjcjkpdaa
open Go.RowKit
set_option linter.unusedVariables false
set_option linter.unusedSimpArgs false
theorem own_chg2 {w w' : World} {B : Nat} {e : TypeId} {size n : Nat} {v : Value} {xs : List Value} {S : Nat → Prop} (h : w.ownsRow B e size v n xs) (hc : Chg w w' S) (hS : ∀ y, B ≤ y → y < w.heap.size → ¬ S y) : w'.ownsRow B e size v n xs := by
  refine ⟨h.1, h.2.imp_right ?_⟩
  rintro ⟨g, cap, cur, rfl, a, b, c⟩
  exact ⟨g, cap, cur, rfl, a, by rw [hc.block g (heap_lt b) (hS g a (heap_lt b))]; exact b, c⟩
set_option maxHeartbeats 4000000 in
theorem sPair (w : World) (A0 : Option Addr) (n0 c0 : Nat) (l0 : List Int) (hn : l0.length = n0) (hr : RB w A0 c0 l0) (hb : ∀ x ∈ l0, 0 ≤ x ∧ x ≤ 255) (hl : n0 ≤ 1048576) :
    Calls Try.prog 111 #[.slice A0 n0 c0] w fun e w' => ∃ (v : Value) (l : List Seen) (kd fm to sq fr : Int) (mo re : Bool) (du : Int) (A : Option Addr) (n c : Nat) (ca : Int), e = .returned (.tuple #[v, .agg #[.int .i64 kd, .int .i64 fm, .int .i64 (to), .int .i64 sq, .int .i64 fr, .bool mo, .bool re, .int .i64 du, .slice A n c], .int .i64 ca]) ∧ l.length ≤ 100 ∧ FI sq ∧ w'.ownsRow (w.heap.size + 1) 131 4 v l.length (rowS l) ∧ Ext w w' := by
  have eR := Ext.alloc_ w (.cells #[.int .i64 0, .int .i64 0, .int .i64 0, .int .i64 0, .int .i64 0, .bool false, .bool false, .int .i64 0, .slice none 0 0] 66)
  have R1 := Lib.hid (hr.ext eR)
  have E0' := Lib.hid eR
  have bR0 := Lib.hid (new_blk1 w #[.int .i64 0, .int .i64 0, .int .i64 0, .int .i64 0, .int .i64 0, .bool false, .bool false, .int .i64 0, .slice none 0 0] 66)
  clear eR hr
  go_enter Try.func111, Try.ntmps111
  go_wp2_with fail
  refine (sNew _ _ _ _ l0 hn R1.out hb hl).mono ?_
  rintro e w1 ⟨b, rfl, h1, h2, h3⟩
  have E0 := Lib.hid (Ext.trans E0'.out h1)
  have C1 := Lib.hid h3
  have bR1 := Lib.hid (ext_blk h1 bR0.out)
  have hbw : w.heap.size + 1 ≤ b := by simpa using h2
  have hb1 : b < w1.heap.size := h3.lt
  clear h1 h2 h3 hn hb R1 E0' bR0
  go_wp2_with fail
  refine (sSeenL _ _ C1.out).mono ?_
  rintro e w2 ⟨v, l, rfl, hll, hS, hO, hD⟩
  have HO := Lib.hid (own_base hO (B' := w.heap.size + 1) (by omega))
  have HO1 := Lib.hid hO
  have HS := Lib.hid hS
  have D2 := Lib.hid hD
  have bR2 := Lib.hid (hD.blk bR1.out (by omega))
  have hw12 := hD.1.size
  clear hS hO hD bR1
  go_wp2_with fail
  refine (sAny12 _ _ D2.out.2).mono ?_
  rintro e w3 ⟨kd, fm, to, sq, fr, mo, re, du, g, A, c, bl, rfl, hF, hbb, hbl, hN, hD⟩
  have HF := Lib.hid hF
  have e3 := Ext.alloc_ w3 (.cells #[.int .i64 kd, .int .i64 fm, .int .i64 (to), .int .i64 sq, .int .i64 fr, .bool mo, .bool re, .int .i64 du, .slice A bl.length c] 66)
  have D3 := Lib.hid ((D2.out.trans hD).ext e3)
  have C3 := Lib.hid (show Chg w2 _ (fun y => y = b ∨ y = w.heap.size ∨ w2.heap.size ≤ y) from (hD.1.mono (fun x hx => .inl hx)).trans (Chg.of_ext _ e3))
  have b7 := Lib.hid (new_blk1 w3 #[.int .i64 kd, .int .i64 fm, .int .i64 (to), .int .i64 sq, .int .i64 fr, .bool mo, .bool re, .int .i64 du, .slice A bl.length c] 66)
  have bR3 := Lib.hid (ext_blk e3 (hD.blk bR2.out (by omega)))
  have hg7 : w2.heap.size ≤ w3.heap.size := hD.1.size
  clear hF hbb hbl hN hD e3 bR2 D2
  generalize bl.length = n at *
  go_wp2_with fail
  refine (sBelow _ _ _ D3.out.2 (by decide)).mono ?_
  rintro e w4 ⟨k, rfl, hk, hD⟩
  have D4 := Lib.hid (D3.out.trans hD)
  have C4 := Lib.hid (C3.out.trans (hD.1.mono (fun x hx => .inl hx)))
  have b74 := Lib.hid (hD.blk b7.out (by omega))
  have bR4 := Lib.hid (hD.blk bR3.out (by omega))
  clear hD D3 C3 b7 bR3
  generalize w3.heap.size = g7 at *
  have hwk : IntKind.i64.wrap (k - 1) = k - 1 := IntWalk.i64_in _ (by omega)
  obtain ⟨AL, cL, hv, hAL, hcL, hEL⟩ := own_els HO.out
  obtain ⟨N, hN⟩ : ∃ N, N = l.length := ⟨_, rfl⟩
  rw [← hN] at hv
  subst hv
  have HN := Lib.hid hN
  have hN100 : N ≤ 100 := by omega
  clear hAL hEL HO hcL hN
  rcases Nat.eq_zero_or_pos N with hN0 | hN0
  · subst hN0
    obtain ⟨x1, x2, x3⟩ := blk_cells b74.out
    have p0 := x1 0
    have p1 := x1 1
    have p2 := x1 2
    have p3 := x1 3
    have p4 := x1 4
    have p5 := x1 5
    have p6 := x1 6
    have p7 := x1 7
    have p8 := x1 8
    simp at p0 p1 p2 p3 p4 p5 p6 p7 p8
    clear x1
    obtain ⟨y1, y2, y3⟩ := blk_cells bR4.out
    have q0 := y1 0
    have q1 := y1 1
    have q2 := y1 2
    have q3 := y1 3
    have q4 := y1 4
    have q5 := y1 5
    have q6 := y1 6
    have q7 := y1 7
    have q8 := y1 8
    simp at q0 q1 q2 q3 q4 q5 q6 q7 q8
    clear y1
    go_wp2_with fail
    go_region
    go_wp2_with fail
    refine bodyPost_ret (v := .tuple #[.slice AL 0 cL, .agg #[.int .i64 kd, .int .i64 fm, .int .i64 (to), .int .i64 sq, .int .i64 fr, .bool mo, .bool re, .int .i64 du, .slice A n c], .int .i64 (k - 1)]) (by clear D4 C4 b74 bR4 E0 HO1 HS HF C1 HN; simp [results, Try.results111, go_sem, *]) rfl ⟨_, l, kd, fm, to, sq, fr, mo, re, du, A, n, c, k - 1, rfl, hll, HF.out.2.2.2.1, ?_, ?_⟩
    · refine own_base (B := w1.heap.size) (own_chg2 HO1.out (S := fun y => y = b ∨ y = w.heap.size ∨ w2.heap.size ≤ y) ?_ (fun y hy hlt hS => by omega)) (by omega)
      refine Chg.trans ?_ (Chg.of_ext _ (Ext.drew (Ext.refl _)))
      iterate 9 refine Chg.set ?_ (by simp) _
      exact C4.out
    · refine Ext.drew ?_
      iterate 9 refine Ext.setCell_ ?_ (by simp <;> omega) _
      exact D4.out.1.ext E0.out (fun x hx => by omega)
  · have hz0 : (0 : Int) < (N : Int) := by omega
    go_wp2_with fail
    refine (sOnce _ _ _ D4.out.2 (by decide)).mono ?_
    rintro e w5 ⟨o1, rfl, hD⟩
    have D5 := Lib.hid (D4.out.trans hD)
    have C5 := Lib.hid (C4.out.trans (hD.1.mono (fun x hx => .inl hx)))
    have b75 := Lib.hid (hD.blk b74.out (by omega))
    have bR5 := Lib.hid (hD.blk bR4.out (by omega))
    clear hD D4 C4 b74 bR4
    cases o1 with
    | true =>
      obtain ⟨x1, x2, x3⟩ := blk_cells b75.out
      have p0 := x1 0
      have p1 := x1 1
      have p2 := x1 2
      have p3 := x1 3
      have p4 := x1 4
      have p5 := x1 5
      have p6 := x1 6
      have p7 := x1 7
      have p8 := x1 8
      simp at p0 p1 p2 p3 p4 p5 p6 p7 p8
      clear x1
      obtain ⟨y1, y2, y3⟩ := blk_cells bR5.out
      have q0 := y1 0
      have q1 := y1 1
      have q2 := y1 2
      have q3 := y1 3
      have q4 := y1 4
      have q5 := y1 5
      have q6 := y1 6
      have q7 := y1 7
      have q8 := y1 8
      simp at q0 q1 q2 q3 q4 q5 q6 q7 q8
      clear y1
      go_wp2_with fail
      go_region
      go_wp2_with fail
      refine bodyPost_ret (v := .tuple #[.slice AL N cL, .agg #[.int .i64 kd, .int .i64 fm, .int .i64 (to), .int .i64 sq, .int .i64 fr, .bool mo, .bool re, .int .i64 du, .slice A n c], .int .i64 (k - 1)]) (by clear D5 C5 b75 bR5 E0 HO1 HS HF C1 HN; simp [results, Try.results111, go_sem, *]) rfl ⟨_, l, kd, fm, to, sq, fr, mo, re, du, A, n, c, k - 1, rfl, hll, HF.out.2.2.2.1, ?_, ?_⟩
      · refine own_base (B := w1.heap.size) (own_chg2 HO1.out (S := fun y => y = b ∨ y = w.heap.size ∨ w2.heap.size ≤ y) ?_ (fun y hy hlt hS => by omega)) (by omega)
        refine Chg.trans ?_ (Chg.of_ext _ (Ext.drew (Ext.refl _)))
        iterate 9 refine Chg.set ?_ (by simp) _
        exact C5.out
      · refine Ext.drew ?_
        iterate 9 refine Ext.setCell_ ?_ (by simp <;> omega) _
        exact D5.out.1.ext E0.out (fun x hx => by omega)
    | false =>
      go_wp2_with fail
      refine (sBelow _ _ _ D5.out.2 ⟨hz0, by omega⟩).mono ?_
      rintro e w6 ⟨jj, rfl, hj, hD⟩
      obtain ⟨j, rfl⟩ : ∃ j : Nat, jj = (j : Int) := ⟨jj.toNat, by omega⟩
      have hjl : j < l.length := by have := HN.out; omega
      have D6 := Lib.hid (D5.out.trans hD)
      have C6 := Lib.hid (C5.out.trans (hD.1.mono (fun x hx => .inl hx)))
      have b76 := Lib.hid (hD.blk b75.out (by omega))
      have bR6 := Lib.hid (hD.blk bR5.out (by omega))
      have O6 := own_chg2 HO1.out C6.out (fun y hy hlt hS => by omega)
      obtain ⟨AL', cL', hv', -, -, hE6⟩ := own_els O6
      injection hv' with q1 q2 q3
      subst q1 q3
      clear q2
      obtain ⟨G, off, rfl, hG, hcs⟩ := hE6.resolve_left (by intro h; subst h; simp at hjl)
      obtain ⟨s0, s1, s2, s3⟩ := els_seen hcs j hjl
      have hFs := Lib.hid (HS.out l[j] (List.getElem_mem hjl))
      clear hD D5 C5 b75 bR5 O6 hE6 hcs
      have hwH : FI l[j].sq := hFs.out
      clear hFs
      generalize l[j].frm = zf at *
      generalize l[j].cat = zc at *
      generalize l[j].sq = zs at *
      generalize l[j].fr = zr at *
      obtain ⟨x1, x2, x3⟩ := blk_cells b76.out
      have p0 := x1 0
      have p1 := x1 1
      have p2 := x1 2
      have p3 := x1 3
      have p4 := x1 4
      have p5 := x1 5
      have p6 := x1 6
      have p7 := x1 7
      have p8 := x1 8
      simp at p0 p1 p2 p3 p4 p5 p6 p7 p8
      clear x1
      go_wp2_with fail
      clear s0 s1 s2 s3
      have h7 := blk_set (blk_set (blk_set b76.out 1 (.int .i64 zf)) 3 (.int .i64 zs)) 4 (.int .i64 zr)
      simp only [List.setIfInBounds_toArray, List.set_cons_zero, List.set_cons_succ] at h7
      have hne : w.heap.size ≠ g7 := by have := heap_lt bR6.out; have := D6.out.1.size; have := E0.out.size; omega
      have hR := set_blk (p := ⟨g7, 4, none⟩) (u := .int .i64 zr) (set_blk (p := ⟨g7, 3, none⟩) (u := .int .i64 zs) (set_blk (p := ⟨g7, 1, none⟩) (u := .int .i64 zf) bR6.out hne) hne) hne
      have hgb : b < g7 := by omega
      have hwg : w.heap.size ≤ g7 := by omega
      have hDs := Drawn.set_ (p := ⟨g7, 4, none⟩) (Drawn.set_ (p := ⟨g7, 3, none⟩) (Drawn.set_ (p := ⟨g7, 1, none⟩) D6.out (by simp; omega) (by simp; omega) (.int .i64 zf)) (by simp; omega) (by simp; omega) (.int .i64 zs)) (by simp; omega) (by simp; omega) (.int .i64 zr)
      have hCs := Chg.set (p := ⟨g7, 4, none⟩) (Chg.set (p := ⟨g7, 3, none⟩) (Chg.set (p := ⟨g7, 1, none⟩) C6.out (.inr (.inr hg7)) (.int .i64 zf)) (.inr (.inr hg7)) (.int .i64 zs)) (.inr (.inr hg7)) (.int .i64 zr)
      have hzs : (((w6.setCell ⟨g7, 1, none⟩ (.int .i64 zf)).setCell ⟨g7, 3, none⟩ (.int .i64 zs)).setCell ⟨g7, 4, none⟩ (.int .i64 zr)).heap.size = w6.heap.size := by simp
      clear p0 p1 p2 p3 p4 p5 p6 p7 p8 x2 x3
      clear b76 bR6 D6 C6
      generalize (((w6.setCell ⟨g7, 1, none⟩ (.int .i64 zf)).setCell ⟨g7, 3, none⟩ (.int .i64 zs)).setCell ⟨g7, 4, none⟩ (.int .i64 zr)) = ws at *
      have e8 := Ext.alloc_ ws (.cells #[.int .i64 zf, .int .i64 zc, .int .i64 zs, .int .i64 zr] 131)
      have h9 := new_blk1 ws #[.int .i64 zf, .int .i64 zc, .int .i64 zs, .int .i64 zr] 131
      rw [hzs] at h9
      have D8 := Lib.hid (hDs.ext e8)
      have C8 := Lib.hid (hCs.trans (Chg.of_ext _ e8))
      have b78 := Lib.hid (ext_blk e8 h7)
      have bR8 := Lib.hid (ext_blk e8 hR)
      have b98 := Lib.hid h9
      have hb6 : b < w6.heap.size := by have := hDs.2.lt; omega
      clear e8 h9 hDs hCs h7 hR
      generalize World.alloc ws _ = w8 at *
      generalize w6.heap.size = g9 at *
      refine (sOnce _ _ _ D8.out.2 (by decide)).mono ?_
      rintro e w9 ⟨o, rfl, hD⟩
      have D9 := Lib.hid (D8.out.trans hD)
      have C9 := Lib.hid (C8.out.trans (hD.1.mono (fun x hx => .inl hx)))
      have b79 := Lib.hid (hD.blk b78.out (by omega))
      have bR9 := Lib.hid (hD.blk bR8.out (by omega))
      have b99 := Lib.hid (hD.blk b98.out (by omega))
      clear hD D8 C8 b78 bR8 b98
      obtain ⟨z1, z2, z3⟩ := blk_cells b99.out
      have m1 := z1 1
      simp at m1
      clear z1
      obtain ⟨x1, x2, x3⟩ := blk_cells b79.out
      have p0 := x1 0
      have p1 := x1 1
      have p2 := x1 2
      have p3 := x1 3
      have p4 := x1 4
      have p5 := x1 5
      have p6 := x1 6
      have p7 := x1 7
      have p8 := x1 8
      simp at p0 p1 p2 p3 p4 p5 p6 p7 p8
      clear x1
      obtain ⟨y1, y2, y3⟩ := blk_cells bR9.out
      have q0 := y1 0
      have q1 := y1 1
      have q2 := y1 2
      have q3 := y1 3
      have q4 := y1 4
      have q5 := y1 5
      have q6 := y1 6
      have q7 := y1 7
      have q8 := y1 8
      simp at q0 q1 q2 q3 q4 q5 q6 q7 q8
      clear y1
      go_wp2_with fail
      go_region
      go_wp2_with fail
      refine bodyPost_ret (v := .tuple #[.slice (some ⟨G, off, none⟩) N cL, .agg #[.int .i64 kd, .int .i64 zf, .int .i64 to, .int .i64 zs, .int .i64 zr, .bool mo, .bool (!o), .int .i64 du, .slice A n c], .int .i64 (zc)]) (by clear D9 C9 b79 bR9 E0 HO1 HS HF C1 HN b99; simp [results, Try.results111, go_sem, *]) rfl ⟨_, l, kd, zf, to, zs, zr, mo, !o, du, A, n, c, zc, rfl, hll, hwH, ?_, ?_⟩
      · refine own_base (B := w1.heap.size) (own_chg2 HO1.out (S := fun y => y = b ∨ y = w.heap.size ∨ w2.heap.size ≤ y) ?_ (fun y hy hlt hS => by omega)) (by omega)
        refine Chg.trans ?_ (Chg.of_ext _ (Ext.drew (Ext.refl _)))
        iterate 9 refine Chg.set ?_ (by simp) _
        refine Chg.set ?_ (.inr (.inr hg7)) _
        exact C9.out
      · refine Ext.drew ?_
        iterate 10 refine Ext.setCell_ ?_ (by simp <;> omega) _
        exact D9.out.1.ext E0.out (fun x hx => by omega)

end Go.Proofs.Ytkmklafjcjkpdaa
