/- Draws of messages. -/
import Derived.Test.YtkmklafjcjkpdaaFrA
namespace Go.Proofs.Ytkmklafjcjkpdaa
open Go.RowKit
set_option linter.unusedVariables false
set_option linter.unusedSimpArgs false
/-- The bounds of a drawn message. -/
def MI (to ct dl : Int) : Prop := (-1 ≤ to ∧ to ≤ 63) ∧ (-1 ≤ ct ∧ ct ≤ 4) ∧ (-1 ≤ dl ∧ dl ≤ 1000000000001)
set_option maxHeartbeats 4000000 in
theorem sMsg17 (w : World) (b : Nat) (hC : Cur w b) :
    Calls Try.prog 133 #[.pointer (some ⟨b, 0, none⟩)] w fun e w' => ∃ (to ct dl : Int) (g : Nat) (A : Option Addr) (c : Nat) (l : List Int), e = .returned (.agg #[.int .i64 to, .int .i64 ct, .int .i64 dl, .slice A l.length c]) ∧ MI to ct dl ∧ (∀ x ∈ l, 0 ≤ x ∧ x ≤ 255) ∧ l.length ≤ 101 ∧ NewB w' w.heap.size g A c l ∧ Drawn w w' b := by
  have hlt := hC.lt
  have D0 := Lib.hid (Drawn.of_ext hC (Ext.alloc_ w (.cells #[.int .i64 0, .int .i64 0, .int .i64 0, .slice none 0 0] 59)))
  have bR0 := Lib.hid (new_blk1 w #[.int .i64 0, .int .i64 0, .int .i64 0, .slice none 0 0] 59)
  have hneR : w.heap.size ≠ b := by omega
  clear hC
  go_enter Try.func133, Try.ntmps133
  have hL0 := cel_lit (w.alloc (.cells #[.int .i64 0, .int .i64 0, .int .i64 0, .slice none 0 0] 59)) 3 #[.int .i64 0, .int .i64 1, .int .i64 2, .int .i64 63]
  simp only [World.size_alloc] at hL0
  have hL0' := Lib.hid hL0
  clear hL0
  go_wp2_with fail
  refine (sOneOf _ _ _ _ _ [0, 1, 2, 63] (D0.out.2.ext (Ext.alloc_ _ _)) rfl (by simp) hL0'.out (fun b' o' h => by injection h with h; injection h with h; omega)).mono ?_
  rintro e w1 ⟨to, rfl, hto, hD⟩
  have D1 := Lib.hid (D0.out.trans (Drawn.trans (Drawn.of_ext D0.out.2 (Ext.alloc_ _ _)) hD))
  have bR1 := Lib.hid (hD.blk (ext_blk (Ext.alloc_ _ _) bR0.out) hneR)
  have hto' : -1 ≤ to ∧ to ≤ 63 := by simp at hto; omega
  clear hD D0 bR0 hto hL0'
  go_wp2_with fail
  refine (sBelow _ _ _ D1.out.2 (by decide)).mono ?_
  rintro e w2 ⟨ct, rfl, hct, hD⟩
  have D2 := Lib.hid (D1.out.trans hD)
  have bR2 := Lib.hid (hD.blk bR1.out hneR)
  clear hD D1 bR1
  go_wp2_with fail
  refine (sBelow _ _ _ D2.out.2 (by decide)).mono ?_
  rintro e w3 ⟨dl, rfl, hdl, hD⟩
  have D3 := Lib.hid (D2.out.trans hD)
  have bR3 := Lib.hid (hD.blk bR2.out hneR)
  clear hD D2 bR2
  go_wp2_with fail
  refine (sBelow _ _ _ D3.out.2 (by decide)).mono ?_
  rintro e w4 ⟨n, rfl, hn, hD⟩
  have D4 := Lib.hid (D3.out.trans hD)
  have bR4 := Lib.hid (hD.blk bR3.out hneR)
  clear hD D3 bR3
  go_wp2_with fail
  refine (sBytes _ _ _ D4.out.2 (by omega)).mono ?_
  rintro e w5 ⟨g, A, c, l, rfl, hl, hb, hN, hD⟩
  have HB := Lib.hid hb
  have HF := Lib.hid (show MI to ct dl from ⟨hto', ⟨by omega, by omega⟩, ⟨by omega, by omega⟩⟩)
  have hl' : l.length ≤ 101 := by omega
  have hz4 : w.heap.size + 1 ≤ w4.heap.size := by have := heap_lt bR4.out; omega
  have e5 := Ext.alloc_ w5 (.cells #[.int .i64 to, .int .i64 ct, .int .i64 dl, .slice A l.length c] 59)
  have D5 := Lib.hid ((D4.out.trans hD).ext e5)
  have bR5 := Lib.hid (ext_blk e5 (hD.blk bR4.out hneR))
  have b5 := Lib.hid (new_blk1 w5 #[.int .i64 to, .int .i64 ct, .int .i64 dl, .slice A l.length c] 59)
  have N5 := Lib.hid ((hN.mono hz4).ext e5)
  have hgl : l = [] ∨ g < w5.heap.size := hN.2.2.2.imp_right (fun h => h.2.1)
  have hRg : w.heap.size < w5.heap.size := by have := hD.1.size; omega
  have hgb : b < w5.heap.size := hD.2.lt
  clear hD D4 bR4 e5 hN hb hl hn hct hdl hto' hz4
  go_wp2_with fail
  refine (sBelow _ _ _ D5.out.2 (by decide)).mono ?_
  rintro e w6 ⟨k, rfl, hk, hD⟩
  have D6 := Lib.hid (D5.out.trans hD)
  have bR6 := Lib.hid (hD.blk bR5.out hneR)
  have b6 := Lib.hid (hD.blk b5.out (by omega))
  have N6 := Lib.hid (N5.out.chg hD.1 (fun y hy => by omega))
  generalize w5.heap.size = g3 at *
  clear hD D5 bR5 b5 N5
  obtain ⟨x1, x2, x3⟩ := blk_cells b6.out
  have p0 := x1 0
  have p1 := x1 1
  have p2 := x1 2
  have p3 := x1 3
  simp at p0 p1 p2 p3
  clear x1
  obtain ⟨y1, y2, y3⟩ := blk_cells bR6.out
  have q0 := y1 0
  have q1 := y1 1
  have q2 := y1 2
  have q3 := y1 3
  simp at q0 q1 q2 q3
  clear y1
  by_cases k0 : k = 0
  · subst k0
    have hL := Lib.hid (cel_lit w6 3 #[.int .i64 (-1), .int .i64 15, .int .i64 16])
    go_wp2_with fail
    refine (sOneOf _ _ _ _ _ [-1, 15, 16] (D6.out.2.ext (Ext.alloc_ _ _)) rfl (by simp) hL.out (fun b' o' h => by injection h with h; injection h with h; have := D6.out.2.lt; omega)).mono ?_
    rintro e w7 ⟨z, rfl, hz, hD⟩
    have D7 := Lib.hid (D6.out.trans (Drawn.trans (Drawn.of_ext D6.out.2 (Ext.alloc_ w6 _)) hD))
    have b7 := Lib.hid (hD.blk (ext_blk (Ext.alloc_ w6 _) b6.out) (by omega))
    have bR7 := Lib.hid (hD.blk (ext_blk (Ext.alloc_ w6 _) bR6.out) hneR)
    have N7 := Lib.hid ((N6.out.ext (Ext.alloc_ w6 _)).chg hD.1 (fun y hy => by omega))
    have HZ := Lib.hid (show MI z ct dl by have h := HF.out; unfold MI at h ⊢; simp at hz; omega)
    clear p0 p1 p2 p3 x2 x3
    clear q0 q1 q2 q3 y2 y3
    clear hD D6 b6 bR6 hz hL N6
    obtain ⟨x1, x2, x3⟩ := blk_cells b7.out
    have p0 := x1 0
    have p1 := x1 1
    have p2 := x1 2
    have p3 := x1 3
    simp at p0 p1 p2 p3
    clear x1
    obtain ⟨y1, y2, y3⟩ := blk_cells bR7.out
    have q0 := y1 0
    have q1 := y1 1
    have q2 := y1 2
    have q3 := y1 3
    simp at q0 q1 q2 q3
    clear y1
    go_wp2_with fail
    refine bodyPost_ret (v := .agg #[.int .i64 z, .int .i64 ct, .int .i64 dl, .slice A l.length c]) (by clear D7 b7 bR7 HB HF HZ N7; simp [results, Try.results133, go_sem, *]) rfl ⟨z, ct, dl, g, A, c, l, rfl, HZ.out, HB.out, hl', ?_, ?_⟩
    · refine NewB.mono (B := w.heap.size + 1) ?_ (by omega)
      iterate 4 refine NewB.set_ ?_ (by simp <;> omega) _
      refine NewB.set_ne N7.out (fun h0 => ?_) _
      simp
      have := hgl.resolve_left h0
      omega
    · iterate 5 refine Drawn.set_ ?_ (by simp <;> omega) (by simp <;> omega) _
      exact D7.out
  by_cases k1 : k = 1
  · subst k1
    have hL := Lib.hid (cel_lit w6 3 #[.int .i64 (-1), .int .i64 4])
    go_wp2_with fail
    refine (sOneOf _ _ _ _ _ [-1, 4] (D6.out.2.ext (Ext.alloc_ _ _)) rfl (by simp) hL.out (fun b' o' h => by injection h with h; injection h with h; have := D6.out.2.lt; omega)).mono ?_
    rintro e w7 ⟨z, rfl, hz, hD⟩
    have D7 := Lib.hid (D6.out.trans (Drawn.trans (Drawn.of_ext D6.out.2 (Ext.alloc_ w6 _)) hD))
    have b7 := Lib.hid (hD.blk (ext_blk (Ext.alloc_ w6 _) b6.out) (by omega))
    have bR7 := Lib.hid (hD.blk (ext_blk (Ext.alloc_ w6 _) bR6.out) hneR)
    have N7 := Lib.hid ((N6.out.ext (Ext.alloc_ w6 _)).chg hD.1 (fun y hy => by omega))
    have HZ := Lib.hid (show MI to z dl by have h := HF.out; unfold MI at h ⊢; simp at hz; omega)
    clear p0 p1 p2 p3 x2 x3
    clear q0 q1 q2 q3 y2 y3
    clear hD D6 b6 bR6 hz hL N6
    obtain ⟨x1, x2, x3⟩ := blk_cells b7.out
    have p0 := x1 0
    have p1 := x1 1
    have p2 := x1 2
    have p3 := x1 3
    simp at p0 p1 p2 p3
    clear x1
    obtain ⟨y1, y2, y3⟩ := blk_cells bR7.out
    have q0 := y1 0
    have q1 := y1 1
    have q2 := y1 2
    have q3 := y1 3
    simp at q0 q1 q2 q3
    clear y1
    go_wp2_with fail
    refine bodyPost_ret (v := .agg #[.int .i64 to, .int .i64 z, .int .i64 dl, .slice A l.length c]) (by clear D7 b7 bR7 HB HF HZ N7; simp [results, Try.results133, go_sem, *]) rfl ⟨to, z, dl, g, A, c, l, rfl, HZ.out, HB.out, hl', ?_, ?_⟩
    · refine NewB.mono (B := w.heap.size + 1) ?_ (by omega)
      iterate 4 refine NewB.set_ ?_ (by simp <;> omega) _
      refine NewB.set_ne N7.out (fun h0 => ?_) _
      simp
      have := hgl.resolve_left h0
      omega
    · iterate 5 refine Drawn.set_ ?_ (by simp <;> omega) (by simp <;> omega) _
      exact D7.out
  by_cases k2 : k = 2
  · subst k2
    have hL := Lib.hid (cel_lit w6 3 #[.int .i64 (-1), .int .i64 1000000000000, .int .i64 1000000000001])
    go_wp2_with fail
    refine (sOneOf _ _ _ _ _ [-1, 1000000000000, 1000000000001] (D6.out.2.ext (Ext.alloc_ _ _)) rfl (by simp) hL.out (fun b' o' h => by injection h with h; injection h with h; have := D6.out.2.lt; omega)).mono ?_
    rintro e w7 ⟨z, rfl, hz, hD⟩
    have D7 := Lib.hid (D6.out.trans (Drawn.trans (Drawn.of_ext D6.out.2 (Ext.alloc_ w6 _)) hD))
    have b7 := Lib.hid (hD.blk (ext_blk (Ext.alloc_ w6 _) b6.out) (by omega))
    have bR7 := Lib.hid (hD.blk (ext_blk (Ext.alloc_ w6 _) bR6.out) hneR)
    have N7 := Lib.hid ((N6.out.ext (Ext.alloc_ w6 _)).chg hD.1 (fun y hy => by omega))
    have HZ := Lib.hid (show MI to ct z by have h := HF.out; unfold MI at h ⊢; simp at hz; omega)
    clear p0 p1 p2 p3 x2 x3
    clear q0 q1 q2 q3 y2 y3
    clear hD D6 b6 bR6 hz hL N6
    obtain ⟨x1, x2, x3⟩ := blk_cells b7.out
    have p0 := x1 0
    have p1 := x1 1
    have p2 := x1 2
    have p3 := x1 3
    simp at p0 p1 p2 p3
    clear x1
    obtain ⟨y1, y2, y3⟩ := blk_cells bR7.out
    have q0 := y1 0
    have q1 := y1 1
    have q2 := y1 2
    have q3 := y1 3
    simp at q0 q1 q2 q3
    clear y1
    go_wp2_with fail
    refine bodyPost_ret (v := .agg #[.int .i64 to, .int .i64 ct, .int .i64 z, .slice A l.length c]) (by clear D7 b7 bR7 HB HF HZ N7; simp [results, Try.results133, go_sem, *]) rfl ⟨to, ct, z, g, A, c, l, rfl, HZ.out, HB.out, hl', ?_, ?_⟩
    · refine NewB.mono (B := w.heap.size + 1) ?_ (by omega)
      iterate 4 refine NewB.set_ ?_ (by simp <;> omega) _
      refine NewB.set_ne N7.out (fun h0 => ?_) _
      simp
      have := hgl.resolve_left h0
      omega
    · iterate 5 refine Drawn.set_ ?_ (by simp <;> omega) (by simp <;> omega) _
      exact D7.out
  by_cases k3 : k = 3
  · subst k3
    clear p0 p1 p2 p3 x2 x3
    clear q0 q1 q2 q3 y2 y3
    clear N6 hgl hl' HB
    go_wp2_with fail
    refine (sBelow _ _ _ D6.out.2 (by decide)).mono ?_
    rintro e w7 ⟨z, rfl, hz, hD⟩
    have D7 := Lib.hid (D6.out.trans hD)
    have b7 := Lib.hid (hD.blk b6.out (by omega))
    have bR7 := Lib.hid (hD.blk bR6.out hneR)
    clear hD D6 b6 bR6
    obtain ⟨n, hn⟩ : ∃ n : Nat, (n : Int) = 100 + z := ⟨(100 + z).toNat, by omega⟩
    have hwr : IntKind.i64.wrap (100 + z) = (n : Int) := by rw [hn]; exact IntWalk.i64_in _ (by omega)
    have hmk := fun W => make_one elByte (z := .int .u8 0) (by kernel_rfl) rfl n (by omega) (by omega) W
    obtain ⟨zs, hzs⟩ : ∃ zs, zs = List.replicate n (Value.int .u8 0) := ⟨_, rfl⟩
    rw [← hzs] at hmk
    have HZ := Lib.hid (show zs = (List.replicate n (0 : Int)).map (Value.int .u8) by rw [hzs]; simp)
    have hz5 : g3 < w7.heap.size := heap_lt b7.out
    have hn1 : n ≤ 101 := by omega
    clear hzs hn hz
    obtain ⟨x1, x2, x3⟩ := blk_cells b7.out
    have p0 := x1 0
    have p1 := x1 1
    have p2 := x1 2
    have p3 := x1 3
    simp at p0 p1 p2 p3
    clear x1
    obtain ⟨y1, y2, y3⟩ := blk_cells bR7.out
    have q0 := y1 0
    have q1 := y1 1
    have q2 := y1 2
    have q3 := y1 3
    simp at q0 q1 q2 q3
    clear y1
    clear b7 bR7
    go_wp2_with fail
    refine bodyPost_ret (v := .agg #[.int .i64 to, .int .i64 ct, .int .i64 dl, .slice (some ⟨w7.heap.size, 0, none⟩) n n]) (by clear D7 HF HZ hmk; simp [results, Try.results133, go_sem, *]) rfl ⟨to, ct, dl, w7.heap.size, some ⟨w7.heap.size, 0, none⟩, n, List.replicate n 0, by rw [List.length_replicate], HF.out, by simp, by simpa using hn1, ?_, ?_⟩
    · refine NewB.mono (B := w7.heap.size) ?_ (by omega)
      have key : ∀ W : World, W.heap.size = w7.heap.size → NewB (W.alloc (.cells zs.toArray 5)) w7.heap.size w7.heap.size (some ⟨w7.heap.size, 0, none⟩) n (List.replicate n (0 : Int)) := by
        intro W hW
        rw [HZ.out]
        have h := newB_alloc (l := List.replicate n (0 : Int)) (T := 5) hW
        rw [List.length_replicate] at h
        exact h
      exact key _ (by simp)
    · refine Drawn.ext ?_ (Ext.alloc_ _ _)
      iterate 5 refine Drawn.set_ ?_ (by simp <;> omega) (by simp <;> omega) _
      exact D7.out
  go_wp2_with fail
  refine bodyPost_ret (v := .agg #[.int .i64 to, .int .i64 ct, .int .i64 dl, .slice A l.length c]) (by clear D6 b6 bR6 HB HF N6; simp [results, Try.results133, go_sem, *]) rfl ⟨to, ct, dl, g, A, c, l, rfl, HF.out, HB.out, hl', ?_, ?_⟩
  · refine NewB.mono (B := w.heap.size + 1) ?_ (by omega)
    iterate 4 refine NewB.set_ ?_ (by simp <;> omega) _
    exact N6.out
  · iterate 4 refine Drawn.set_ ?_ (by simp <;> omega) (by simp <;> omega) _
    exact D6.out
end Go.Proofs.Ytkmklafjcjkpdaa
