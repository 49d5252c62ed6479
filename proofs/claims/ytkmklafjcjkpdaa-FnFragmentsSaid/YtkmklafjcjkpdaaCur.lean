/- The cursor that draws: its block, and what each draw gives. -/
import Derived.Test.YtkmklafjcjkpdaaApp
import Derived.Laws.BitsLemmas
import Derived.BigQuiet
namespace Go.Proofs.Ytkmklafjcjkpdaa
open Go.RowKit
set_option linter.unusedVariables false
set_option linter.unusedSimpArgs false

theorem and255 (n : Int) : 0 ≤ bits .and .i64 n 255 ∧ bits .and .i64 n 255 ≤ 255 := by
  have h255 : (BitVec.ofInt 64 255).toNat = 2 ^ 8 - 1 := by decide
  have key : (BitVec.ofInt 64 n &&& BitVec.ofInt 64 255).toNat = (n % ((2 ^ 64 : Nat) : Int)).toNat % 2 ^ 8 := by
    rw [BitVec.toNat_and, BitVec.toNat_ofInt, h255, Nat.and_two_pow_sub_one_eq_mod]
  have h : bits .and .i64 n 255 = IntKind.i64.wrap ((BitVec.ofInt 64 n &&& BitVec.ofInt 64 255).toNat : Nat) := rfl
  rw [h, key, IntKind.wrap_i64]
  omega
/-- The bytes that are drawn from. -/
def Cur (w : World) (b : Nat) : Prop :=
  ∃ (A : Option Addr) (n c p : Nat) (s : Int) (l : List Int), w.heap[b]? = some (.cells #[.slice A n c, .int .i64 p, .int .i64 s] 146 (0, 0)) ∧ l.length = n ∧ RB w A c l ∧ (∀ x ∈ l, 0 ≤ x ∧ x ≤ 255) ∧ p ≤ n ∧ n ≤ 1048576 ∧ (l ≠ [] → ∀ b' o, A = some ⟨b', o, none⟩ → b' < b)
theorem Cur.lt {w : World} {b : Nat} (h : Cur w b) : b < w.heap.size := by
  obtain ⟨A, n, c, p, s, l, h, _⟩ := h
  exact heap_lt h
theorem RB.chg {w w' : World} {A : Option Addr} {c : Nat} {l : List Int} {S : Nat → Prop} (h : RB w A c l) (hc : Chg w w' S) (hS : l ≠ [] → ∀ b' o, A = some ⟨b', o, none⟩ → ¬ S b') : RB w' A c l := by
  obtain ⟨h1, h2, h3⟩ := h
  refine ⟨?_, h2, h3⟩
  by_cases h0 : l = []
  · exact .inl (by rw [h0]; rfl)
  rcases h1 with h1 | ⟨b, off, h4, h5, h6⟩
  · exact .inl h1
  · have hb := hc.block b h5 (hS h0 b off h4)
    refine .inr ⟨b, off, h4, Nat.lt_of_lt_of_le h5 hc.size, fun j u hu => ?_⟩
    have := h6 j u hu
    unfold World.cell? at this ⊢
    simp only at this ⊢
    rw [hb]
    exact this
theorem RB.at_ {w : World} {A : Option Addr} {c : Nat} {l : List Int} (h : RB w A c l) {k : Nat} (hk : k < l.length) : ∃ b off, A = some ⟨b, off, none⟩ ∧ b < w.heap.size ∧ w.cell? ⟨b, off + k, none⟩ = some (.int .u8 l[k]) := by
  rcases h.1 with h1 | ⟨b, off, h4, h5, h6⟩
  · have h2 : l = [] := by simpa using h1
    subst h2
    simp at hk
  · exact ⟨b, off, h4, h5, h6 k _ (by simp [hk])⟩
theorem cur_new {w : World} {A : Option Addr} {n c : Nat} {l : List Int} {z : Int} (hn : l.length = n) (hr : RB w A c l) (hb : ∀ x ∈ l, 0 ≤ x ∧ x ≤ 255) (hl : n ≤ 1048576) : Cur (w.alloc (.cells #[.slice A n c, .int .i64 0, .int .i64 z] 146)) w.heap.size := by
  refine ⟨A, n, c, 0, z, l, new_blk1 w _ _, hn, hr.ext (Ext.alloc_ _ _), hb, Nat.zero_le _, hl, fun h0 b' o h => ?_⟩
  obtain ⟨b, off, h1, h2, _⟩ := hr.at_ (k := 0) (List.length_pos_iff.2 h0)
  rw [h1] at h
  injection h with h
  injection h with h
  omega
theorem sByte (w : World) (b : Nat) (hC : Cur w b) :
    Calls Try.prog 149 #[.pointer (some ⟨b, 0, none⟩)] w fun e w' => ∃ x : Int, e = .returned (.int .i64 x) ∧ (0 ≤ x ∧ x ≤ 255) ∧ Chg w w' (fun y => y = b) ∧ Cur w' b := by
  obtain ⟨A, n, c, p, s, l, h1, h2, h3, h4, h5, h6, h7⟩ := hC
  have N1 := Lib.hid h2
  have R1 := Lib.hid h3
  have B1 := Lib.hid h4
  have A1 := Lib.hid h7
  have b1 := Lib.hid h1
  obtain ⟨x1, x2, x3⟩ := blk_cells h1
  have p0 := x1 0
  have p1 := x1 1
  have p2 := x1 2
  simp at p0 p1 p2
  clear h1 h2 h3 h4 h7 x1
  by_cases hlt : p < n
  · have hlp : p < l.length := by rw [N1.out]; exact hlt
    obtain ⟨g, off, rfl, h8, h9⟩ := R1.out.at_ (k := p) (by rw [N1.out]; exact hlt)
    have hgb : g ≠ b := Nat.ne_of_lt (A1.out (by intro h; have := N1.out; rw [h] at this; simp at this; omega) g off rfl)
    go_enter Try.func149, Try.ntmps149
    go_wp2_with fail
    refine wp_region_chain 12 (by kernel_rfl) (by kernel_rfl) ?_
    simp only [List.take_succ_cons, List.take_zero, List.drop_succ_cons, List.drop_zero]
    repeat (apply Chain.quiet; · (intro vs wq hEq hd; obtain ⟨hcq, hfq⟩ := bcell hEq; clear hEq hd; (try simp only [Act.put, SP.pick, SP.is, SP.box, id_eq, List.take_succ_cons, List.take_zero, List.drop_succ_cons, List.drop_zero, List.setIfInBounds_toArray, List.set_cons_zero, List.set_cons_succ]); refine growOp_go ?_; go_simp; exact ⟨Ext.refl _, rfl⟩))
    refine Chain.done ?_
    intro vs w3 hE3 hd3
    simp only [Act.put, SP.pick, SP.is, SP.box, id_eq, List.take_succ_cons, List.take_zero, List.drop_succ_cons, List.drop_zero, List.setIfInBounds_toArray, List.set_cons_zero, List.set_cons_succ]
    clear hd3
    obtain ⟨s1, hs1⟩ : ∃ s1 : Int, s1 = wrap64 (wrap64 (s * 6364136223846793005) + 1442695040888963407) := ⟨_, rfl⟩
    rw [← hs1] at hE3 ⊢
    have hx := and255 (bits BinOp.xor IntKind.i64 (s1 / 8589934592) (s1 / 140737488355328))
    generalize bits BinOp.and IntKind.i64 (bits BinOp.xor IntKind.i64 (s1 / 8589934592) (s1 / 140737488355328)) 255 = x0 at *
    have C3 := Lib.hid ((Chg.set (p := ⟨b, 2, none⟩) (Chg.refl w (fun y => y = b)) rfl (.int .i64 s1)).trans (Chg.of_ext _ hE3))
    have b3 := Lib.hid (show w3.heap[b]? = some (.cells #[.slice (some ⟨g, off, none⟩) n c, .int .i64 p, .int .i64 s1] 146 (0, 0)) from ext_blk hE3 (blk_set b1.out 2 _))
    clear hE3 p0 p1 p2 hs1 x2 x3 b1
    obtain ⟨x1, x2, x3⟩ := blk_cells b3.out
    have p0 := x1 0
    have p1 := x1 1
    have p2 := x1 2
    simp at p0 p1 p2
    clear x1
    have R3 := R1.out.chg C3.out (fun _ b' o h => by injection h with h; injection h with h; subst h; exact hgb)
    obtain ⟨g', off', e9, h8', h9'⟩ := R3.at_ (k := p) (by rw [N1.out]; exact hlt)
    injection e9 with e9
    injection e9 with e9 e10
    subst e9 e10
    have R3' := Lib.hid R3
    clear R3 h8 h9
    have hpn : (p : Int) < (n : Int) := by omega
    have hp0 : (0 : Int) ≤ (p : Int) := by omega
    go_wp2_with fail
    refine wp_region_chain 10 (by kernel_rfl) (by kernel_rfl) ?_
    simp only [List.take_succ_cons, List.take_zero, List.drop_succ_cons, List.drop_zero]
    repeat (apply Chain.quiet; · (intro vs wq hEq hd; obtain ⟨hcq, hfq⟩ := bcell hEq; clear hEq hd; (try simp only [Act.put, SP.pick, SP.is, SP.box, id_eq, List.take_succ_cons, List.take_zero, List.drop_succ_cons, List.drop_zero, List.setIfInBounds_toArray, List.set_cons_zero, List.set_cons_succ]); refine growOp_go ?_; go_simp; exact ⟨Ext.refl _, rfl⟩))
    refine Chain.done ?_
    intro vs w4 hE4 hd4
    simp only [Act.put, SP.pick, SP.is, SP.box, id_eq, List.take_succ_cons, List.take_zero, List.drop_succ_cons, List.drop_zero, List.setIfInBounds_toArray, List.set_cons_zero, List.set_cons_succ]
    clear hd4
    have C4 := Lib.hid (C3.out.trans (Chg.of_ext _ hE4))
    have b4 := Lib.hid (ext_blk hE4 b3.out)
    have h9 := (R3'.out.ext hE4).at_ (k := p) (by rw [N1.out]; exact hlt)
    clear hE4 p0 p1 p2 x2 x3 b3 C3 R3' h8' h9'
    obtain ⟨g', off', e9, h8', h9'⟩ := h9
    injection e9 with e9
    injection e9 with e9 e10
    subst e9 e10
    obtain ⟨x1, x2, x3⟩ := blk_cells b4.out
    have p0 := x1 0
    have p1 := x1 1
    have p2 := x1 2
    simp at p0 p1 p2
    clear x1
    go_wp2_with fail
    refine wp_region_chain 14 (by kernel_rfl) (by kernel_rfl) ?_
    simp only [List.take_succ_cons, List.take_zero, List.drop_succ_cons, List.drop_zero]
    repeat (apply Chain.quiet; · (intro vs wq hEq hd; obtain ⟨hcq, hfq⟩ := bcell hEq; clear hEq hd; (try simp only [Act.put, SP.pick, SP.is, SP.box, id_eq, List.take_succ_cons, List.take_zero, List.drop_succ_cons, List.drop_zero, List.setIfInBounds_toArray, List.set_cons_zero, List.set_cons_succ]); refine growOp_go ?_; go_simp; exact ⟨Ext.refl _, rfl⟩))
    refine Chain.done ?_
    intro vs w5 hE5 hd5
    simp only [Act.put, SP.pick, SP.is, SP.box, id_eq, List.take_succ_cons, List.take_zero, List.drop_succ_cons, List.drop_zero, List.setIfInBounds_toArray, List.set_cons_zero, List.set_cons_succ]
    clear hd5
    have hy := and255 (IntKind.i64.wrap (x0 + IntKind.i64.wrap l[p]))
    generalize bits BinOp.and IntKind.i64 (IntKind.i64.wrap (x0 + IntKind.i64.wrap l[p])) 255 = y at *
    have C5 := Lib.hid (C4.out.trans (Chg.of_ext _ hE5))
    have b5 := Lib.hid (ext_blk hE5 b4.out)
    clear hE5 p0 p1 p2 x2 x3 b4 C4 h8' h9'
    obtain ⟨x1, x2, x3⟩ := blk_cells b5.out
    have p0 := x1 0
    have p1 := x1 1
    have p2 := x1 2
    simp at p0 p1 p2
    clear x1
    go_wp2_with fail
    go_ret
    have C6 := C5.out.set (p := ⟨b, 1, none⟩) rfl (.int .i64 ((p : Int) + 1))
    exact ⟨y, rfl, hy, C6, some ⟨g, off, none⟩, n, c, p + 1, s1, l, blk_set b5.out 1 _, N1.out, R1.out.chg C6 (fun _ b' o h => by injection h with h; injection h with h; subst h; exact hgb), B1.out, by omega, h6, A1.out⟩
  · go_enter Try.func149, Try.ntmps149
    go_wp2_with fail
    refine wp_region_chain 12 (by kernel_rfl) (by kernel_rfl) ?_
    simp only [List.take_succ_cons, List.take_zero, List.drop_succ_cons, List.drop_zero]
    repeat (apply Chain.quiet; · (intro vs wq hEq hd; obtain ⟨hcq, hfq⟩ := bcell hEq; clear hEq hd; (try simp only [Act.put, SP.pick, SP.is, SP.box, id_eq, List.take_succ_cons, List.take_zero, List.drop_succ_cons, List.drop_zero, List.setIfInBounds_toArray, List.set_cons_zero, List.set_cons_succ]); refine growOp_go ?_; go_simp; exact ⟨Ext.refl _, rfl⟩))
    refine Chain.done ?_
    intro vs w3 hE3 hd3
    simp only [Act.put, SP.pick, SP.is, SP.box, id_eq, List.take_succ_cons, List.take_zero, List.drop_succ_cons, List.drop_zero, List.setIfInBounds_toArray, List.set_cons_zero, List.set_cons_succ]
    clear hd3
    obtain ⟨s1, hs1⟩ : ∃ s1 : Int, s1 = wrap64 (wrap64 (s * 6364136223846793005) + 1442695040888963407) := ⟨_, rfl⟩
    rw [← hs1] at hE3 ⊢
    have hx := and255 (bits BinOp.xor IntKind.i64 (s1 / 8589934592) (s1 / 140737488355328))
    generalize bits BinOp.and IntKind.i64 (bits BinOp.xor IntKind.i64 (s1 / 8589934592) (s1 / 140737488355328)) 255 = x0 at *
    have C3 := Lib.hid ((Chg.set (p := ⟨b, 2, none⟩) (Chg.refl w (fun y => y = b)) rfl (.int .i64 s1)).trans (Chg.of_ext _ hE3))
    have b3 := Lib.hid (show w3.heap[b]? = some (.cells #[.slice A n c, .int .i64 p, .int .i64 s1] 146 (0, 0)) from ext_blk hE3 (blk_set b1.out 2 _))
    clear hE3 p0 p1 p2 hs1 x2 x3 b1
    obtain ⟨x1, x2, x3⟩ := blk_cells b3.out
    have p0 := x1 0
    have p1 := x1 1
    have p2 := x1 2
    simp at p0 p1 p2
    clear x1
    have hpn : ¬ ((p : Int) < (n : Int)) := by omega
    have R3 := Lib.hid (R1.out.chg C3.out (fun h0 b' o h => Nat.ne_of_lt (A1.out h0 b' o h)))
    go_wp2_with fail
    refine wp_region_chain 10 (by kernel_rfl) (by kernel_rfl) ?_
    simp only [List.take_succ_cons, List.take_zero, List.drop_succ_cons, List.drop_zero]
    repeat (apply Chain.quiet; · (intro vs wq hEq hd; obtain ⟨hcq, hfq⟩ := bcell hEq; clear hEq hd; (try simp only [Act.put, SP.pick, SP.is, SP.box, id_eq, List.take_succ_cons, List.take_zero, List.drop_succ_cons, List.drop_zero, List.setIfInBounds_toArray, List.set_cons_zero, List.set_cons_succ]); refine growOp_go ?_; go_simp; exact ⟨Ext.refl _, rfl⟩))
    refine Chain.done ?_
    intro vs w4 hE4 hd4
    simp only [Act.put, SP.pick, SP.is, SP.box, id_eq, List.take_succ_cons, List.take_zero, List.drop_succ_cons, List.drop_zero, List.setIfInBounds_toArray, List.set_cons_zero, List.set_cons_succ]
    clear hd4
    have C4 := Lib.hid (C3.out.trans (Chg.of_ext _ hE4))
    have b4 := Lib.hid (ext_blk hE4 b3.out)
    have R4 := Lib.hid (R3.out.ext hE4)
    clear hE4 p0 p1 p2 x2 x3 b3 C3 R3
    go_wp2_with fail
    go_ret
    exact ⟨x0, rfl, hx, C4.out, A, n, c, p, s1, l, b4.out, N1.out, R4.out, B1.out, h5, h6, A1.out⟩
set_option maxHeartbeats 1000000 in
theorem sNew (w : World) (A : Option Addr) (n c : Nat) (l : List Int) (hn : l.length = n) (hr : RB w A c l) (hb : ∀ x ∈ l, 0 ≤ x ∧ x ≤ 255) (hl : n ≤ 1048576) :
    Calls Try.prog 90 #[.slice A n c] w fun e w' => ∃ b, e = .returned (.pointer (some ⟨b, 0, none⟩)) ∧ Ext w w' ∧ w.heap.size ≤ b ∧ Cur w' b := by
  have N1 := Lib.hid hn
  have R1 := Lib.hid hr
  have B1 := Lib.hid hb
  clear hn hr hb
  go_enter Try.func90, Try.ntmps90
  go_wp2
  go_loopw [3, 4] (fun s i wr => ∃ (k : Nat) (z : Int), k ≤ n ∧ s = .int .i64 z ∧ i = .int .i64 k ∧ wr = w) (fun _ i _ => n - (intOf i).toNat)
  case atStart => exact ⟨0, _, Nat.zero_le _, rfl, rfl, rfl⟩
  case round =>
    obtain ⟨k, z, hk, rfl, rfl, rfl⟩ := hrel
    by_cases hlt : k < n
    · by_cases h4 : (k : Int) < 4000
      · obtain ⟨b, off, rfl, h5, h6⟩ := R1.out.at_ (k := k) (by rw [N1.out]; exact hlt)
        go_wp2_with fail
        go_roundw
        case rel => refine ⟨k + 1, _, by omega, rfl, by go_num, ?_⟩; first | rfl | trivial
        case measure => simp [intOf]; omega
      · go_wp2_with fail
        go_ret
        exact ⟨_, rfl, Ext.alloc_ _ _, Nat.le_refl _, cur_new N1.out R1.out B1.out hl⟩
    · go_wp2_with fail
      go_ret
      exact ⟨_, rfl, Ext.alloc_ _ _, Nat.le_refl _, cur_new N1.out R1.out B1.out hl⟩
end Go.Proofs.Ytkmklafjcjkpdaa
