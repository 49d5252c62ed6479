/- Contracts over placements: who is placed, distances, who is heard. -/
import Derived.Test.YtkmklafjcjkpdaaPlL
import Derived.Test.YtkmklafjcjkpdaaSl
namespace Go.Proofs.Ytkmklafjcjkpdaa
open Go.RowKit
set_option linter.unusedVariables false
set_option linter.unusedSimpArgs false
theorem plB_eq {P : List Int} {n : Nat} {a : Int} (hn : P.length = n) : inB a 0 ((n : Int) - 1) = plB P a := by
  unfold inB plB
  rw [hn, Bool.eq_iff_iff]
  simp only [Bool.and_eq_true, decide_eq_true_eq]
  omega
theorem sPl (w : World) (A : Option Addr) (n c : Nat) (rg sn : Int) (P : List Int) (a : Int) (hn : P.length = n) (hC : Cel w A (P.map (Value.int .i64))) (hl : n ≤ 1048576) :
    Calls Try.prog 121 #[.agg #[.slice A n c, .int .i64 rg, .int .i64 sn], .int .i64 a] w fun e w' => e = .returned (.bool (plB P a)) ∧ Ext w w' := by
  have b1 := new_blk1 w #[.slice A n c, .int .i64 rg, .int .i64 sn] 74
  obtain ⟨x1, x2, x3⟩ := blk_cells b1
  have p0 := x1 0
  have p1 := x1 1
  have p2 := x1 2
  simp at p0 p1 p2
  clear x1
  have hw : IntKind.i64.wrap ((n : Int) - 1) = (n : Int) - 1 := IntWalk.i64_in _ (by omega)
  clear b1 hC
  go_enter Try.func121, Try.ntmps121
  go_wp2_with fail
  refine (sIn _ _ _ _).mono ?_
  rintro e w' ⟨rfl, rfl⟩
  rw [plB_eq hn]
  go_wp2_with fail
  go_ret
  exact ⟨rfl, Ext.alloc_ _ _⟩
theorem iPl (w : World) (A : Option Addr) (n c : Nat) (rg sn : Int) (P : List Int) (a : Int) (hn : P.length = n) (hC : Cel w A (P.map (Value.int .i64))) (hl : n ≤ 1048576) :
    Calls Try.prog 119 #[.agg #[.slice A n c, .int .i64 rg, .int .i64 sn], .int .i64 a] w fun e w' => e = .returned (.bool (plB P a)) ∧ Ext w w' := by
  have b1 := new_blk1 w #[.slice A n c, .int .i64 rg, .int .i64 sn] 74
  obtain ⟨x1, x2, x3⟩ := blk_cells b1
  have p0 := x1 0
  have p1 := x1 1
  have p2 := x1 2
  simp at p0 p1 p2
  clear x1
  clear b1 hC
  by_cases h0 : 0 ≤ a
  · have hv := Lib.hid (show plB P a = decide (a < (n : Int)) by simp [plB, hn, h0])
    go_enter Try.func119, Try.ntmps119
    go_wp2_with fail
    go_ret
    exact ⟨by rw [hv.out]; first | rfl | simp [*], Ext.alloc_ _ _⟩
  · have hv := Lib.hid (show plB P a = false by simp [plB, h0])
    go_enter Try.func119, Try.ntmps119
    go_wp2_with fail
    go_ret
    exact ⟨by rw [hv.out]; first | rfl | simp [*], Ext.alloc_ _ _⟩
theorem dst_no {P : List Int} {a b : Int} (h : (plB P a && plB P b) = false) : dstV P a b = -1 := by
  unfold dstV
  rw [h]
  rfl
theorem dst_yes {P : List Int} {a b : Int} (i j : Nat) (ha : a = (i : Int)) (hb : b = (j : Int)) (hi : i < P.length) (hj : j < P.length) : dstV P a b = wrap64 (max P[i] P[j] - min P[i] P[j]) := by
  subst ha hb
  unfold dstV
  rw [if_pos (by simp [plB, hi, hj])]
  simp [posV, hi, hj]
set_option maxHeartbeats 1000000 in
theorem iDst (w : World) (A : Option Addr) (n c : Nat) (rg sn : Int) (P : List Int) (a b : Int) (hn : P.length = n) (hC : Cel w A (P.map (Value.int .i64))) (hl : n ≤ 1048576) :
    Calls Try.prog 120 #[.agg #[.slice A n c, .int .i64 rg, .int .i64 sn], .int .i64 a, .int .i64 b] w fun e w' => e = .returned (.int .i64 (dstV P a b)) ∧ Ext w w' := by
  have b1 := Lib.hid (new_blk1 w #[.slice A n c, .int .i64 rg, .int .i64 sn] 74)
  have HC := Lib.hid (hC.ext (Ext.alloc_ w (.cells #[.slice A n c, .int .i64 rg, .int .i64 sn] 74)))
  have HN := Lib.hid hn
  clear hC hn
  obtain ⟨V, hV⟩ : ∃ V, dstV P a b = V := ⟨_, rfl⟩
  rw [hV]
  by_cases h1 : plB P a = true
  · skip
    obtain ⟨x1, x2, x3⟩ := blk_cells b1.out
    have p0 := x1 0
    have p1 := x1 1
    have p2 := x1 2
    simp at p0 p1 p2
    clear x1
    go_enter Try.func120, Try.ntmps120
    go_wp2_with fail
    refine (iPl _ _ _ _ _ _ P _ HN.out HC.out hl).mono ?_
    rintro e w1 ⟨rfl, hE1⟩
    rw [h1]
    have E1 := Lib.hid hE1
    have b11 := Lib.hid (ext_blk hE1 b1.out)
    clear p0 p1 p2 x2 x3 hE1
    obtain ⟨x1, x2, x3⟩ := blk_cells b11.out
    have p0 := x1 0
    have p1 := x1 1
    have p2 := x1 2
    simp at p0 p1 p2
    clear x1
    go_wp2_with fail
    refine (iPl _ _ _ _ _ _ P _ HN.out (HC.out.ext E1.out) hl).mono ?_
    rintro e w2 ⟨rfl, hE2⟩
    have E2 := Lib.hid (Ext.trans E1.out hE2)
    have b12 := Lib.hid (ext_blk hE2 b11.out)
    clear p0 p1 p2 x2 x3 hE2
    by_cases h2 : plB P b = true
    · rw [h2]
      obtain ⟨i, rfl, hi⟩ := plB_true h1
      obtain ⟨j, rfl, hj⟩ := plB_true h2
      have hv := (dst_yes i j rfl rfl hi hj).symm.trans hV
      obtain ⟨g, off, rfl, hg, hc⟩ := (HC.out.ext E2.out).map_at (List.ne_nil_of_length_pos (by omega))
      have hci := hc i hi
      have hcj := hc j hj
      have hin : i < n := by have := HN.out; omega
      have hjn : j < n := by have := HN.out; omega
      generalize P[i] = x at *
      generalize P[j] = y at *
      have HV := Lib.hid hv
      clear hc h1 h2 hv hV
      obtain ⟨x1, x2, x3⟩ := blk_cells b12.out
      have p0 := x1 0
      have p1 := x1 1
      have p2 := x1 2
      simp at p0 p1 p2
      clear x1
      go_wp2_with fail
      refine (iMax _ _ _).mono ?_
      rintro e w3 ⟨rfl, rfl⟩
      go_wp2_with fail
      refine (iMin _ _ _).mono ?_
      rintro e w3 ⟨rfl, rfl⟩
      go_wp2_with fail
      go_ret
      exact ⟨by rw [← HV.out]; first | rfl | simp [wrap64, IntKind.wrap_i64], Ext.trans (Ext.alloc_ _ _) E2.out⟩
    · have h2' : plB P b = false := by simpa using h2
      rw [h2']
      have HV := Lib.hid (hV.symm.trans (dst_no (by rw [h2']; simp)))
      clear hV
      go_wp2_with fail
      go_ret
      exact ⟨by rw [HV.out]; rfl, Ext.trans (Ext.alloc_ _ _) E2.out⟩
  · have h1' : plB P a = false := by simpa using h1
    obtain ⟨x1, x2, x3⟩ := blk_cells b1.out
    have p0 := x1 0
    have p1 := x1 1
    have p2 := x1 2
    simp at p0 p1 p2
    clear x1
    have HV := Lib.hid (hV.symm.trans (dst_no (by rw [h1']; simp)))
    clear hV
    go_enter Try.func120, Try.ntmps120
    go_wp2_with fail
    refine (iPl _ _ _ _ _ _ P _ HN.out HC.out hl).mono ?_
    rintro e w1 ⟨rfl, hE1⟩
    rw [h1']
    go_wp2_with fail
    go_ret
    exact ⟨by rw [HV.out]; rfl, Ext.trans (Ext.alloc_ _ _) hE1⟩
set_option maxHeartbeats 1000000 in
theorem sDst (w : World) (A : Option Addr) (n c : Nat) (rg sn : Int) (P : List Int) (a b : Int) (hn : P.length = n) (hC : Cel w A (P.map (Value.int .i64))) (hl : n ≤ 1048576) :
    Calls Try.prog 56 #[.agg #[.slice A n c, .int .i64 rg, .int .i64 sn], .int .i64 a, .int .i64 b] w fun e w' => e = .returned (.int .i64 (dstV P a b)) ∧ Ext w w' := by
  have b1 := Lib.hid (new_blk1 w #[.slice A n c, .int .i64 rg, .int .i64 sn] 74)
  have HC := Lib.hid (hC.ext (Ext.alloc_ w (.cells #[.slice A n c, .int .i64 rg, .int .i64 sn] 74)))
  have HN := Lib.hid hn
  clear hC hn
  obtain ⟨V, hV⟩ : ∃ V, dstV P a b = V := ⟨_, rfl⟩
  rw [hV]
  by_cases h1 : plB P a = true
  · skip
    obtain ⟨x1, x2, x3⟩ := blk_cells b1.out
    have p0 := x1 0
    have p1 := x1 1
    have p2 := x1 2
    simp at p0 p1 p2
    clear x1
    go_enter Try.func56, Try.ntmps56
    go_wp2_with fail
    refine (sPl _ _ _ _ _ _ P _ HN.out HC.out hl).mono ?_
    rintro e w1 ⟨rfl, hE1⟩
    rw [h1]
    have E1 := Lib.hid hE1
    have b11 := Lib.hid (ext_blk hE1 b1.out)
    clear p0 p1 p2 x2 x3 hE1
    obtain ⟨x1, x2, x3⟩ := blk_cells b11.out
    have p0 := x1 0
    have p1 := x1 1
    have p2 := x1 2
    simp at p0 p1 p2
    clear x1
    go_wp2_with fail
    refine (sPl _ _ _ _ _ _ P _ HN.out (HC.out.ext E1.out) hl).mono ?_
    rintro e w2 ⟨rfl, hE2⟩
    have E2 := Lib.hid (Ext.trans E1.out hE2)
    have b12 := Lib.hid (ext_blk hE2 b11.out)
    clear p0 p1 p2 x2 x3 hE2
    by_cases h2 : plB P b = true
    · rw [h2]
      obtain ⟨i, rfl, hi⟩ := plB_true h1
      obtain ⟨j, rfl, hj⟩ := plB_true h2
      have hv := (dst_yes i j rfl rfl hi hj).symm.trans hV
      obtain ⟨g, off, rfl, hg, hc⟩ := (HC.out.ext E2.out).map_at (List.ne_nil_of_length_pos (by omega))
      have hci := hc i hi
      have hcj := hc j hj
      have hin : i < n := by have := HN.out; omega
      have hjn : j < n := by have := HN.out; omega
      generalize P[i] = x at *
      generalize P[j] = y at *
      have HV := Lib.hid hv
      clear hc h1 h2 hv hV
      obtain ⟨x1, x2, x3⟩ := blk_cells b12.out
      have p0 := x1 0
      have p1 := x1 1
      have p2 := x1 2
      simp at p0 p1 p2
      clear x1
      go_wp2_with fail
      refine wp_region_chain 24 (by kernel_rfl) (by kernel_rfl) ?_
      simp only [List.take_succ_cons, List.take_zero, List.drop_succ_cons, List.drop_zero]
      repeat (first | (apply Chain.quiet; · (intro vs wq hEq hd; obtain ⟨hcq, hfq⟩ := bcell hEq; clear hEq hd; (try simp only [Act.put, SP.pick, SP.is, SP.box, id_eq, List.take_succ_cons, List.take_zero, List.drop_succ_cons, List.drop_zero, List.setIfInBounds_toArray, List.set_cons_zero, List.set_cons_succ]); refine growOp_go ?_; go_simp; first | exact ⟨Ext.refl _, rfl⟩ | exact rfl | (split; (exfalso; omega); (first | exact ⟨Ext.refl _, rfl⟩ | exact rfl)) | (split; (first | exact ⟨Ext.refl _, rfl⟩ | exact rfl); (exfalso; omega)))) | (apply Chain.quiet; · (intro vs wq hEq hd; obtain ⟨hcq, hfq⟩ := bcell hEq; clear hEq hd; (try simp only [Act.put, SP.pick, SP.is, SP.box, id_eq, List.take_succ_cons, List.take_zero, List.drop_succ_cons, List.drop_zero, List.setIfInBounds_toArray, List.set_cons_zero, List.set_cons_succ]); refine growOp_go ?_; go_simp; refine (sMax _ _ _).mono ?_; rintro e w5 ⟨rfl, hb⟩; subst hb; first | exact ⟨rfl, Ext.refl _⟩ | exact ⟨_, rfl, Ext.refl _, rfl⟩)) | (apply Chain.quiet; · (intro vs wq hEq hd; obtain ⟨hcq, hfq⟩ := bcell hEq; clear hEq hd; (try simp only [Act.put, SP.pick, SP.is, SP.box, id_eq, List.take_succ_cons, List.take_zero, List.drop_succ_cons, List.drop_zero, List.setIfInBounds_toArray, List.set_cons_zero, List.set_cons_succ]); refine growOp_go ?_; go_simp; refine (sMin _ _ _).mono ?_; rintro e w5 ⟨rfl, hb⟩; subst hb; first | exact ⟨rfl, Ext.refl _⟩ | exact ⟨_, rfl, Ext.refl _, rfl⟩)))
      refine Chain.done ?_
      intro vs w4 hE4 hd4
      simp only [Act.put, SP.pick, SP.is, SP.box, id_eq, List.take_succ_cons, List.take_zero, List.drop_succ_cons, List.drop_zero, List.setIfInBounds_toArray, List.set_cons_zero, List.set_cons_succ]
      clear hd4
      have E4 := Lib.hid (Ext.trans E2.out hE4)
      clear hE4
      go_wp2_with fail
      go_ret
      exact ⟨by rw [← HV.out]; first | rfl | simp [wrap64, IntKind.wrap_i64], Ext.trans (Ext.alloc_ _ _) E4.out⟩
    · have h2' : plB P b = false := by simpa using h2
      rw [h2']
      have HV := Lib.hid (hV.symm.trans (dst_no (by rw [h2']; simp)))
      clear hV
      go_wp2_with fail
      go_ret
      exact ⟨by rw [HV.out]; rfl, Ext.trans (Ext.alloc_ _ _) E2.out⟩
  · have h1' : plB P a = false := by simpa using h1
    obtain ⟨x1, x2, x3⟩ := blk_cells b1.out
    have p0 := x1 0
    have p1 := x1 1
    have p2 := x1 2
    simp at p0 p1 p2
    clear x1
    have HV := Lib.hid (hV.symm.trans (dst_no (by rw [h1']; simp)))
    clear hV
    go_enter Try.func56, Try.ntmps56
    go_wp2_with fail
    refine (sPl _ _ _ _ _ _ P _ HN.out HC.out hl).mono ?_
    rintro e w1 ⟨rfl, hE1⟩
    rw [h1']
    go_wp2_with fail
    go_ret
    exact ⟨by rw [HV.out]; rfl, Ext.trans (Ext.alloc_ _ _) hE1⟩
end Go.Proofs.Ytkmklafjcjkpdaa
