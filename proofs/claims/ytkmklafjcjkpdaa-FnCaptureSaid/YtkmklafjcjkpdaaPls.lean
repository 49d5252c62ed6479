/- Contracts over placements: who can sense. -/
import Derived.Test.YtkmklafjcjkpdaaPlr
namespace Go.Proofs.Ytkmklafjcjkpdaa
open Go.RowKit
set_option linter.unusedVariables false
set_option linter.unusedSimpArgs false
set_option maxHeartbeats 1000000 in
theorem sCs (w : World) (A : Option Addr) (n c : Nat) (rg sn : Int) (P : List Int) (a b : Int) (hn : P.length = n) (hC : Cel w A (P.map (Value.int .i64))) (hl : n ≤ 1048576) :
    Calls Try.prog 55 #[.agg #[.slice A n c, .int .i64 rg, .int .i64 sn], .int .i64 a, .int .i64 b] w fun e w' => e = .returned (.bool (crB P sn a b)) ∧ Ext w w' := by
  have b1 := Lib.hid (new_blk1 w #[.slice A n c, .int .i64 rg, .int .i64 sn] 74)
  have HC := Lib.hid (hC.ext (Ext.alloc_ w (.cells #[.slice A n c, .int .i64 rg, .int .i64 sn] 74)))
  have HN := Lib.hid hn
  clear hC hn
  obtain ⟨x1, x2, x3⟩ := blk_cells b1.out
  have p0 := x1 0
  have p1 := x1 1
  have p2 := x1 2
  simp at p0 p1 p2
  clear x1
  by_cases h1 : plB P a = true
  · by_cases h2 : plB P b = true
    · by_cases h3 : a = b
      · have HV := Lib.hid (cr_3 (P := P) (rg := sn) h3)
        rw [HV.out]
        have H1 := Lib.hid h1
        have H2 := Lib.hid h2
        clear h1 h2 HV
        go_enter Try.func55, Try.ntmps55
        go_wp2_with fail
        refine wp_region_chain 23 (by kernel_rfl) (by kernel_rfl) ?_
        simp only [List.take_succ_cons, List.take_zero, List.drop_succ_cons, List.drop_zero]
        repeat (first | (apply Chain.quiet; · (intro vs wq hEq hd; obtain ⟨hcq, hfq⟩ := bcell hEq; clear hEq hd; (try simp only [Act.put, SP.pick, SP.is, SP.box, id_eq, List.take_succ_cons, List.take_zero, List.drop_succ_cons, List.drop_zero, List.setIfInBounds_toArray, List.set_cons_zero, List.set_cons_succ]); refine growOp_go ?_; go_simp; first | exact ⟨Ext.refl _, rfl⟩ | exact rfl | (split; (exfalso; omega); (first | exact ⟨Ext.refl _, rfl⟩ | exact rfl)) | (split; (first | exact ⟨Ext.refl _, rfl⟩ | exact rfl); (exfalso; omega)))) | (apply Chain.quiet; · (intro vs wq hEq hd; obtain ⟨hcq, hfq⟩ := bcell hEq; have hCq := Lib.hid (Cel.ext HC.out hEq); clear hEq hd; (try simp only [Act.put, SP.pick, SP.is, SP.box, id_eq, List.take_succ_cons, List.take_zero, List.drop_succ_cons, List.drop_zero, List.setIfInBounds_toArray, List.set_cons_zero, List.set_cons_succ]); refine growOp_go ?_; go_simp; refine (sPl _ _ _ _ _ _ P _ HN.out hCq.out hl).mono ?_; rintro e w5 ⟨rfl, hb⟩; rw [H1.out]; first | exact ⟨rfl, hb⟩ | exact ⟨_, rfl, hb, rfl⟩)) | (apply Chain.quiet; · (intro vs wq hEq hd; obtain ⟨hcq, hfq⟩ := bcell hEq; have hCq := Lib.hid (Cel.ext HC.out hEq); clear hEq hd; (try simp only [Act.put, SP.pick, SP.is, SP.box, id_eq, List.take_succ_cons, List.take_zero, List.drop_succ_cons, List.drop_zero, List.setIfInBounds_toArray, List.set_cons_zero, List.set_cons_succ]); refine growOp_go ?_; go_simp; refine (sPl _ _ _ _ _ _ P _ HN.out hCq.out hl).mono ?_; rintro e w5 ⟨rfl, hb⟩; rw [H2.out]; first | exact ⟨rfl, hb⟩ | exact ⟨_, rfl, hb, rfl⟩)))
        refine Chain.done ?_
        intro vs w4 hE4 hd4
        simp only [Act.put, SP.pick, SP.is, SP.box, id_eq, List.take_succ_cons, List.take_zero, List.drop_succ_cons, List.drop_zero, List.setIfInBounds_toArray, List.set_cons_zero, List.set_cons_succ]
        clear hd4
        have E4 := Lib.hid (Ext.trans (Ext.alloc_ w (.cells #[.slice A n c, .int .i64 rg, .int .i64 sn] 74)) hE4)
        clear hE4
        go_wp2_with fail
        go_ret
        exact ⟨rfl, E4.out⟩
      · obtain ⟨x, hx⟩ : ∃ x, dstV P a b = x := ⟨_, rfl⟩
        have HV := Lib.hid (cr_4 (rg := sn) h1 h2 h3 hx)
        rw [HV.out]
        have H1 := Lib.hid h1
        have H2 := Lib.hid h2
        have HX := Lib.hid hx
        clear h1 h2 HV hx
        go_enter Try.func55, Try.ntmps55
        go_wp2_with fail
        refine wp_region_chain 23 (by kernel_rfl) (by kernel_rfl) ?_
        simp only [List.take_succ_cons, List.take_zero, List.drop_succ_cons, List.drop_zero]
        repeat (first | (apply Chain.quiet; · (intro vs wq hEq hd; obtain ⟨hcq, hfq⟩ := bcell hEq; clear hEq hd; (try simp only [Act.put, SP.pick, SP.is, SP.box, id_eq, List.take_succ_cons, List.take_zero, List.drop_succ_cons, List.drop_zero, List.setIfInBounds_toArray, List.set_cons_zero, List.set_cons_succ]); refine growOp_go ?_; go_simp; first | exact ⟨Ext.refl _, rfl⟩ | exact rfl | (split; (exfalso; omega); (first | exact ⟨Ext.refl _, rfl⟩ | exact rfl)) | (split; (first | exact ⟨Ext.refl _, rfl⟩ | exact rfl); (exfalso; omega)))) | (apply Chain.quiet; · (intro vs wq hEq hd; obtain ⟨hcq, hfq⟩ := bcell hEq; have hCq := Lib.hid (Cel.ext HC.out hEq); clear hEq hd; (try simp only [Act.put, SP.pick, SP.is, SP.box, id_eq, List.take_succ_cons, List.take_zero, List.drop_succ_cons, List.drop_zero, List.setIfInBounds_toArray, List.set_cons_zero, List.set_cons_succ]); refine growOp_go ?_; go_simp; refine (sPl _ _ _ _ _ _ P _ HN.out hCq.out hl).mono ?_; rintro e w5 ⟨rfl, hb⟩; rw [H1.out]; first | exact ⟨rfl, hb⟩ | exact ⟨_, rfl, hb, rfl⟩)) | (apply Chain.quiet; · (intro vs wq hEq hd; obtain ⟨hcq, hfq⟩ := bcell hEq; have hCq := Lib.hid (Cel.ext HC.out hEq); clear hEq hd; (try simp only [Act.put, SP.pick, SP.is, SP.box, id_eq, List.take_succ_cons, List.take_zero, List.drop_succ_cons, List.drop_zero, List.setIfInBounds_toArray, List.set_cons_zero, List.set_cons_succ]); refine growOp_go ?_; go_simp; refine (sPl _ _ _ _ _ _ P _ HN.out hCq.out hl).mono ?_; rintro e w5 ⟨rfl, hb⟩; rw [H2.out]; first | exact ⟨rfl, hb⟩ | exact ⟨_, rfl, hb, rfl⟩)) | (apply Chain.quiet; · (intro vs wq hEq hd; obtain ⟨hcq, hfq⟩ := bcell hEq; have hCq := Lib.hid (Cel.ext HC.out hEq); clear hEq hd; (try simp only [Act.put, SP.pick, SP.is, SP.box, id_eq, List.take_succ_cons, List.take_zero, List.drop_succ_cons, List.drop_zero, List.setIfInBounds_toArray, List.set_cons_zero, List.set_cons_succ]); refine growOp_go ?_; go_simp; refine (sDst _ _ _ _ _ _ P _ _ HN.out hCq.out hl).mono ?_; rintro e w5 ⟨rfl, hb⟩; rw [HX.out]; first | exact ⟨rfl, hb⟩ | exact ⟨_, rfl, hb, rfl⟩)))
        refine Chain.done ?_
        intro vs w4 hE4 hd4
        simp only [Act.put, SP.pick, SP.is, SP.box, id_eq, List.take_succ_cons, List.take_zero, List.drop_succ_cons, List.drop_zero, List.setIfInBounds_toArray, List.set_cons_zero, List.set_cons_succ]
        clear hd4
        have E4 := Lib.hid (Ext.trans (Ext.alloc_ w (.cells #[.slice A n c, .int .i64 rg, .int .i64 sn] 74)) hE4)
        clear hE4
        go_wp2_with fail
        go_ret
        exact ⟨by first | rfl | simp [h3], E4.out⟩
    · have h2' : plB P b = false := by simpa using h2
      have HV := Lib.hid (cr_2 (rg := sn) (a := a) h2')
      rw [HV.out]
      have H1 := Lib.hid h1
      have H2 := Lib.hid h2'
      clear h1 h2 h2' HV
      by_cases h3 : a = b
      · skip
        go_enter Try.func55, Try.ntmps55
        go_wp2_with fail
        refine wp_region_chain 23 (by kernel_rfl) (by kernel_rfl) ?_
        simp only [List.take_succ_cons, List.take_zero, List.drop_succ_cons, List.drop_zero]
        repeat (first | (apply Chain.quiet; · (intro vs wq hEq hd; obtain ⟨hcq, hfq⟩ := bcell hEq; clear hEq hd; (try simp only [Act.put, SP.pick, SP.is, SP.box, id_eq, List.take_succ_cons, List.take_zero, List.drop_succ_cons, List.drop_zero, List.setIfInBounds_toArray, List.set_cons_zero, List.set_cons_succ]); refine growOp_go ?_; go_simp; first | exact ⟨Ext.refl _, rfl⟩ | exact rfl | (split; (exfalso; omega); (first | exact ⟨Ext.refl _, rfl⟩ | exact rfl)) | (split; (first | exact ⟨Ext.refl _, rfl⟩ | exact rfl); (exfalso; omega)))) | (apply Chain.quiet; · (intro vs wq hEq hd; obtain ⟨hcq, hfq⟩ := bcell hEq; have hCq := Lib.hid (Cel.ext HC.out hEq); clear hEq hd; (try simp only [Act.put, SP.pick, SP.is, SP.box, id_eq, List.take_succ_cons, List.take_zero, List.drop_succ_cons, List.drop_zero, List.setIfInBounds_toArray, List.set_cons_zero, List.set_cons_succ]); refine growOp_go ?_; go_simp; refine (sPl _ _ _ _ _ _ P _ HN.out hCq.out hl).mono ?_; rintro e w5 ⟨rfl, hb⟩; rw [H1.out]; first | exact ⟨rfl, hb⟩ | exact ⟨_, rfl, hb, rfl⟩)) | (apply Chain.quiet; · (intro vs wq hEq hd; obtain ⟨hcq, hfq⟩ := bcell hEq; have hCq := Lib.hid (Cel.ext HC.out hEq); clear hEq hd; (try simp only [Act.put, SP.pick, SP.is, SP.box, id_eq, List.take_succ_cons, List.take_zero, List.drop_succ_cons, List.drop_zero, List.setIfInBounds_toArray, List.set_cons_zero, List.set_cons_succ]); refine growOp_go ?_; go_simp; refine (sPl _ _ _ _ _ _ P _ HN.out hCq.out hl).mono ?_; rintro e w5 ⟨rfl, hb⟩; rw [H2.out]; first | exact ⟨rfl, hb⟩ | exact ⟨_, rfl, hb, rfl⟩)))
        refine Chain.done ?_
        intro vs w4 hE4 hd4
        simp only [Act.put, SP.pick, SP.is, SP.box, id_eq, List.take_succ_cons, List.take_zero, List.drop_succ_cons, List.drop_zero, List.setIfInBounds_toArray, List.set_cons_zero, List.set_cons_succ]
        clear hd4
        have E4 := Lib.hid (Ext.trans (Ext.alloc_ w (.cells #[.slice A n c, .int .i64 rg, .int .i64 sn] 74)) hE4)
        clear hE4
        go_wp2_with fail
        go_ret
        exact ⟨rfl, E4.out⟩
      · skip
        go_enter Try.func55, Try.ntmps55
        go_wp2_with fail
        refine wp_region_chain 23 (by kernel_rfl) (by kernel_rfl) ?_
        simp only [List.take_succ_cons, List.take_zero, List.drop_succ_cons, List.drop_zero]
        repeat (first | (apply Chain.quiet; · (intro vs wq hEq hd; obtain ⟨hcq, hfq⟩ := bcell hEq; clear hEq hd; (try simp only [Act.put, SP.pick, SP.is, SP.box, id_eq, List.take_succ_cons, List.take_zero, List.drop_succ_cons, List.drop_zero, List.setIfInBounds_toArray, List.set_cons_zero, List.set_cons_succ]); refine growOp_go ?_; go_simp; first | exact ⟨Ext.refl _, rfl⟩ | exact rfl | (split; (exfalso; omega); (first | exact ⟨Ext.refl _, rfl⟩ | exact rfl)) | (split; (first | exact ⟨Ext.refl _, rfl⟩ | exact rfl); (exfalso; omega)))) | (apply Chain.quiet; · (intro vs wq hEq hd; obtain ⟨hcq, hfq⟩ := bcell hEq; have hCq := Lib.hid (Cel.ext HC.out hEq); clear hEq hd; (try simp only [Act.put, SP.pick, SP.is, SP.box, id_eq, List.take_succ_cons, List.take_zero, List.drop_succ_cons, List.drop_zero, List.setIfInBounds_toArray, List.set_cons_zero, List.set_cons_succ]); refine growOp_go ?_; go_simp; refine (sPl _ _ _ _ _ _ P _ HN.out hCq.out hl).mono ?_; rintro e w5 ⟨rfl, hb⟩; rw [H1.out]; first | exact ⟨rfl, hb⟩ | exact ⟨_, rfl, hb, rfl⟩)) | (apply Chain.quiet; · (intro vs wq hEq hd; obtain ⟨hcq, hfq⟩ := bcell hEq; have hCq := Lib.hid (Cel.ext HC.out hEq); clear hEq hd; (try simp only [Act.put, SP.pick, SP.is, SP.box, id_eq, List.take_succ_cons, List.take_zero, List.drop_succ_cons, List.drop_zero, List.setIfInBounds_toArray, List.set_cons_zero, List.set_cons_succ]); refine growOp_go ?_; go_simp; refine (sPl _ _ _ _ _ _ P _ HN.out hCq.out hl).mono ?_; rintro e w5 ⟨rfl, hb⟩; rw [H2.out]; first | exact ⟨rfl, hb⟩ | exact ⟨_, rfl, hb, rfl⟩)))
        refine Chain.done ?_
        intro vs w4 hE4 hd4
        simp only [Act.put, SP.pick, SP.is, SP.box, id_eq, List.take_succ_cons, List.take_zero, List.drop_succ_cons, List.drop_zero, List.setIfInBounds_toArray, List.set_cons_zero, List.set_cons_succ]
        clear hd4
        have E4 := Lib.hid (Ext.trans (Ext.alloc_ w (.cells #[.slice A n c, .int .i64 rg, .int .i64 sn] 74)) hE4)
        clear hE4
        go_wp2_with fail
        go_ret
        exact ⟨rfl, E4.out⟩
  · have h1' : plB P a = false := by simpa using h1
    have HV := Lib.hid (cr_1 (rg := sn) (b := b) h1')
    rw [HV.out]
    have H1 := Lib.hid h1'
    clear h1 h1' HV
    by_cases h3 : a = b
    · subst h3
      go_enter Try.func55, Try.ntmps55
      go_wp2_with fail
      refine wp_region_chain 23 (by kernel_rfl) (by kernel_rfl) ?_
      simp only [List.take_succ_cons, List.take_zero, List.drop_succ_cons, List.drop_zero]
      repeat (first | (apply Chain.quiet; · (intro vs wq hEq hd; obtain ⟨hcq, hfq⟩ := bcell hEq; clear hEq hd; (try simp only [Act.put, SP.pick, SP.is, SP.box, id_eq, List.take_succ_cons, List.take_zero, List.drop_succ_cons, List.drop_zero, List.setIfInBounds_toArray, List.set_cons_zero, List.set_cons_succ]); refine growOp_go ?_; go_simp; first | exact ⟨Ext.refl _, rfl⟩ | exact rfl | (split; (exfalso; omega); (first | exact ⟨Ext.refl _, rfl⟩ | exact rfl)) | (split; (first | exact ⟨Ext.refl _, rfl⟩ | exact rfl); (exfalso; omega)))) | (apply Chain.quiet; · (intro vs wq hEq hd; obtain ⟨hcq, hfq⟩ := bcell hEq; have hCq := Lib.hid (Cel.ext HC.out hEq); clear hEq hd; (try simp only [Act.put, SP.pick, SP.is, SP.box, id_eq, List.take_succ_cons, List.take_zero, List.drop_succ_cons, List.drop_zero, List.setIfInBounds_toArray, List.set_cons_zero, List.set_cons_succ]); refine growOp_go ?_; go_simp; refine (sPl _ _ _ _ _ _ P _ HN.out hCq.out hl).mono ?_; rintro e w5 ⟨rfl, hb⟩; rw [H1.out]; first | exact ⟨rfl, hb⟩ | exact ⟨_, rfl, hb, rfl⟩)))
      refine Chain.done ?_
      intro vs w4 hE4 hd4
      simp only [Act.put, SP.pick, SP.is, SP.box, id_eq, List.take_succ_cons, List.take_zero, List.drop_succ_cons, List.drop_zero, List.setIfInBounds_toArray, List.set_cons_zero, List.set_cons_succ]
      clear hd4
      have E4 := Lib.hid (Ext.trans (Ext.alloc_ w (.cells #[.slice A n c, .int .i64 rg, .int .i64 sn] 74)) hE4)
      clear hE4
      go_wp2_with fail
      go_ret
      exact ⟨rfl, E4.out⟩
    · skip
      go_enter Try.func55, Try.ntmps55
      go_wp2_with fail
      refine wp_region_chain 23 (by kernel_rfl) (by kernel_rfl) ?_
      simp only [List.take_succ_cons, List.take_zero, List.drop_succ_cons, List.drop_zero]
      repeat (first | (apply Chain.quiet; · (intro vs wq hEq hd; obtain ⟨hcq, hfq⟩ := bcell hEq; clear hEq hd; (try simp only [Act.put, SP.pick, SP.is, SP.box, id_eq, List.take_succ_cons, List.take_zero, List.drop_succ_cons, List.drop_zero, List.setIfInBounds_toArray, List.set_cons_zero, List.set_cons_succ]); refine growOp_go ?_; go_simp; first | exact ⟨Ext.refl _, rfl⟩ | exact rfl | (split; (exfalso; omega); (first | exact ⟨Ext.refl _, rfl⟩ | exact rfl)) | (split; (first | exact ⟨Ext.refl _, rfl⟩ | exact rfl); (exfalso; omega)))) | (apply Chain.quiet; · (intro vs wq hEq hd; obtain ⟨hcq, hfq⟩ := bcell hEq; have hCq := Lib.hid (Cel.ext HC.out hEq); clear hEq hd; (try simp only [Act.put, SP.pick, SP.is, SP.box, id_eq, List.take_succ_cons, List.take_zero, List.drop_succ_cons, List.drop_zero, List.setIfInBounds_toArray, List.set_cons_zero, List.set_cons_succ]); refine growOp_go ?_; go_simp; refine (sPl _ _ _ _ _ _ P _ HN.out hCq.out hl).mono ?_; rintro e w5 ⟨rfl, hb⟩; rw [H1.out]; first | exact ⟨rfl, hb⟩ | exact ⟨_, rfl, hb, rfl⟩)))
      refine Chain.done ?_
      intro vs w4 hE4 hd4
      simp only [Act.put, SP.pick, SP.is, SP.box, id_eq, List.take_succ_cons, List.take_zero, List.drop_succ_cons, List.drop_zero, List.setIfInBounds_toArray, List.set_cons_zero, List.set_cons_succ]
      clear hd4
      have E4 := Lib.hid (Ext.trans (Ext.alloc_ w (.cells #[.slice A n c, .int .i64 rg, .int .i64 sn] 74)) hE4)
      clear hE4
      go_wp2_with fail
      go_ret
      exact ⟨rfl, E4.out⟩
set_option maxHeartbeats 1000000 in
theorem iCs (w : World) (A : Option Addr) (n c : Nat) (rg sn : Int) (P : List Int) (a b : Int) (hn : P.length = n) (hC : Cel w A (P.map (Value.int .i64))) (hl : n ≤ 1048576) :
    Calls Try.prog 59 #[.agg #[.slice A n c, .int .i64 rg, .int .i64 sn], .int .i64 a, .int .i64 b] w fun e w' => e = .returned (.bool (crB P sn a b)) ∧ Ext w w' := by
  have b1 := Lib.hid (new_blk1 w #[.slice A n c, .int .i64 rg, .int .i64 sn] 74)
  have HC := Lib.hid (hC.ext (Ext.alloc_ w (.cells #[.slice A n c, .int .i64 rg, .int .i64 sn] 74)))
  have HN := Lib.hid hn
  clear hC hn
  obtain ⟨x1, x2, x3⟩ := blk_cells b1.out
  have p0 := x1 0
  have p1 := x1 1
  have p2 := x1 2
  simp at p0 p1 p2
  clear x1
  by_cases h1 : plB P a = true
  · by_cases h2 : plB P b = true
    · by_cases h3 : a = b
      · have HV := Lib.hid (cr_3 (P := P) (rg := sn) h3)
        rw [HV.out]
        have H1 := Lib.hid h1
        have H2 := Lib.hid h2
        clear h1 h2 HV
        go_enter Try.func59, Try.ntmps59
        go_wp2_with fail
        refine wp_region_chain 23 (by kernel_rfl) (by kernel_rfl) ?_
        simp only [List.take_succ_cons, List.take_zero, List.drop_succ_cons, List.drop_zero]
        repeat (first | (apply Chain.quiet; · (intro vs wq hEq hd; obtain ⟨hcq, hfq⟩ := bcell hEq; clear hEq hd; (try simp only [Act.put, SP.pick, SP.is, SP.box, id_eq, List.take_succ_cons, List.take_zero, List.drop_succ_cons, List.drop_zero, List.setIfInBounds_toArray, List.set_cons_zero, List.set_cons_succ]); refine growOp_go ?_; go_simp; first | exact ⟨Ext.refl _, rfl⟩ | exact rfl | (split; (exfalso; omega); (first | exact ⟨Ext.refl _, rfl⟩ | exact rfl)) | (split; (first | exact ⟨Ext.refl _, rfl⟩ | exact rfl); (exfalso; omega)))) | (apply Chain.quiet; · (intro vs wq hEq hd; obtain ⟨hcq, hfq⟩ := bcell hEq; have hCq := Lib.hid (Cel.ext HC.out hEq); clear hEq hd; (try simp only [Act.put, SP.pick, SP.is, SP.box, id_eq, List.take_succ_cons, List.take_zero, List.drop_succ_cons, List.drop_zero, List.setIfInBounds_toArray, List.set_cons_zero, List.set_cons_succ]); refine growOp_go ?_; go_simp; refine (iPl _ _ _ _ _ _ P _ HN.out hCq.out hl).mono ?_; rintro e w5 ⟨rfl, hb⟩; rw [H1.out]; first | exact ⟨rfl, hb⟩ | exact ⟨_, rfl, hb, rfl⟩)) | (apply Chain.quiet; · (intro vs wq hEq hd; obtain ⟨hcq, hfq⟩ := bcell hEq; have hCq := Lib.hid (Cel.ext HC.out hEq); clear hEq hd; (try simp only [Act.put, SP.pick, SP.is, SP.box, id_eq, List.take_succ_cons, List.take_zero, List.drop_succ_cons, List.drop_zero, List.setIfInBounds_toArray, List.set_cons_zero, List.set_cons_succ]); refine growOp_go ?_; go_simp; refine (iPl _ _ _ _ _ _ P _ HN.out hCq.out hl).mono ?_; rintro e w5 ⟨rfl, hb⟩; rw [H2.out]; first | exact ⟨rfl, hb⟩ | exact ⟨_, rfl, hb, rfl⟩)))
        refine Chain.done ?_
        intro vs w4 hE4 hd4
        simp only [Act.put, SP.pick, SP.is, SP.box, id_eq, List.take_succ_cons, List.take_zero, List.drop_succ_cons, List.drop_zero, List.setIfInBounds_toArray, List.set_cons_zero, List.set_cons_succ]
        clear hd4
        have E4 := Lib.hid (Ext.trans (Ext.alloc_ w (.cells #[.slice A n c, .int .i64 rg, .int .i64 sn] 74)) hE4)
        clear hE4
        go_wp2_with fail
        go_ret
        exact ⟨rfl, E4.out⟩
      · obtain ⟨x, hx⟩ : ∃ x, dstV P a b = x := ⟨_, rfl⟩
        have HV := Lib.hid (cr_4 (rg := sn) h1 h2 h3 hx)
        rw [HV.out]
        have H1 := Lib.hid h1
        have H2 := Lib.hid h2
        have HX := Lib.hid hx
        clear h1 h2 HV hx
        go_enter Try.func59, Try.ntmps59
        go_wp2_with fail
        refine wp_region_chain 23 (by kernel_rfl) (by kernel_rfl) ?_
        simp only [List.take_succ_cons, List.take_zero, List.drop_succ_cons, List.drop_zero]
        repeat (first | (apply Chain.quiet; · (intro vs wq hEq hd; obtain ⟨hcq, hfq⟩ := bcell hEq; clear hEq hd; (try simp only [Act.put, SP.pick, SP.is, SP.box, id_eq, List.take_succ_cons, List.take_zero, List.drop_succ_cons, List.drop_zero, List.setIfInBounds_toArray, List.set_cons_zero, List.set_cons_succ]); refine growOp_go ?_; go_simp; first | exact ⟨Ext.refl _, rfl⟩ | exact rfl | (split; (exfalso; omega); (first | exact ⟨Ext.refl _, rfl⟩ | exact rfl)) | (split; (first | exact ⟨Ext.refl _, rfl⟩ | exact rfl); (exfalso; omega)))) | (apply Chain.quiet; · (intro vs wq hEq hd; obtain ⟨hcq, hfq⟩ := bcell hEq; have hCq := Lib.hid (Cel.ext HC.out hEq); clear hEq hd; (try simp only [Act.put, SP.pick, SP.is, SP.box, id_eq, List.take_succ_cons, List.take_zero, List.drop_succ_cons, List.drop_zero, List.setIfInBounds_toArray, List.set_cons_zero, List.set_cons_succ]); refine growOp_go ?_; go_simp; refine (iPl _ _ _ _ _ _ P _ HN.out hCq.out hl).mono ?_; rintro e w5 ⟨rfl, hb⟩; rw [H1.out]; first | exact ⟨rfl, hb⟩ | exact ⟨_, rfl, hb, rfl⟩)) | (apply Chain.quiet; · (intro vs wq hEq hd; obtain ⟨hcq, hfq⟩ := bcell hEq; have hCq := Lib.hid (Cel.ext HC.out hEq); clear hEq hd; (try simp only [Act.put, SP.pick, SP.is, SP.box, id_eq, List.take_succ_cons, List.take_zero, List.drop_succ_cons, List.drop_zero, List.setIfInBounds_toArray, List.set_cons_zero, List.set_cons_succ]); refine growOp_go ?_; go_simp; refine (iPl _ _ _ _ _ _ P _ HN.out hCq.out hl).mono ?_; rintro e w5 ⟨rfl, hb⟩; rw [H2.out]; first | exact ⟨rfl, hb⟩ | exact ⟨_, rfl, hb, rfl⟩)) | (apply Chain.quiet; · (intro vs wq hEq hd; obtain ⟨hcq, hfq⟩ := bcell hEq; have hCq := Lib.hid (Cel.ext HC.out hEq); clear hEq hd; (try simp only [Act.put, SP.pick, SP.is, SP.box, id_eq, List.take_succ_cons, List.take_zero, List.drop_succ_cons, List.drop_zero, List.setIfInBounds_toArray, List.set_cons_zero, List.set_cons_succ]); refine growOp_go ?_; go_simp; refine (iDst _ _ _ _ _ _ P _ _ HN.out hCq.out hl).mono ?_; rintro e w5 ⟨rfl, hb⟩; rw [HX.out]; first | exact ⟨rfl, hb⟩ | exact ⟨_, rfl, hb, rfl⟩)))
        refine Chain.done ?_
        intro vs w4 hE4 hd4
        simp only [Act.put, SP.pick, SP.is, SP.box, id_eq, List.take_succ_cons, List.take_zero, List.drop_succ_cons, List.drop_zero, List.setIfInBounds_toArray, List.set_cons_zero, List.set_cons_succ]
        clear hd4
        have E4 := Lib.hid (Ext.trans (Ext.alloc_ w (.cells #[.slice A n c, .int .i64 rg, .int .i64 sn] 74)) hE4)
        clear hE4
        go_wp2_with fail
        go_ret
        exact ⟨by first | rfl | simp [h3], E4.out⟩
    · have h2' : plB P b = false := by simpa using h2
      have HV := Lib.hid (cr_2 (rg := sn) (a := a) h2')
      rw [HV.out]
      have H1 := Lib.hid h1
      have H2 := Lib.hid h2'
      clear h1 h2 h2' HV
      by_cases h3 : a = b
      · skip
        go_enter Try.func59, Try.ntmps59
        go_wp2_with fail
        refine wp_region_chain 23 (by kernel_rfl) (by kernel_rfl) ?_
        simp only [List.take_succ_cons, List.take_zero, List.drop_succ_cons, List.drop_zero]
        repeat (first | (apply Chain.quiet; · (intro vs wq hEq hd; obtain ⟨hcq, hfq⟩ := bcell hEq; clear hEq hd; (try simp only [Act.put, SP.pick, SP.is, SP.box, id_eq, List.take_succ_cons, List.take_zero, List.drop_succ_cons, List.drop_zero, List.setIfInBounds_toArray, List.set_cons_zero, List.set_cons_succ]); refine growOp_go ?_; go_simp; first | exact ⟨Ext.refl _, rfl⟩ | exact rfl | (split; (exfalso; omega); (first | exact ⟨Ext.refl _, rfl⟩ | exact rfl)) | (split; (first | exact ⟨Ext.refl _, rfl⟩ | exact rfl); (exfalso; omega)))) | (apply Chain.quiet; · (intro vs wq hEq hd; obtain ⟨hcq, hfq⟩ := bcell hEq; have hCq := Lib.hid (Cel.ext HC.out hEq); clear hEq hd; (try simp only [Act.put, SP.pick, SP.is, SP.box, id_eq, List.take_succ_cons, List.take_zero, List.drop_succ_cons, List.drop_zero, List.setIfInBounds_toArray, List.set_cons_zero, List.set_cons_succ]); refine growOp_go ?_; go_simp; refine (iPl _ _ _ _ _ _ P _ HN.out hCq.out hl).mono ?_; rintro e w5 ⟨rfl, hb⟩; rw [H1.out]; first | exact ⟨rfl, hb⟩ | exact ⟨_, rfl, hb, rfl⟩)) | (apply Chain.quiet; · (intro vs wq hEq hd; obtain ⟨hcq, hfq⟩ := bcell hEq; have hCq := Lib.hid (Cel.ext HC.out hEq); clear hEq hd; (try simp only [Act.put, SP.pick, SP.is, SP.box, id_eq, List.take_succ_cons, List.take_zero, List.drop_succ_cons, List.drop_zero, List.setIfInBounds_toArray, List.set_cons_zero, List.set_cons_succ]); refine growOp_go ?_; go_simp; refine (iPl _ _ _ _ _ _ P _ HN.out hCq.out hl).mono ?_; rintro e w5 ⟨rfl, hb⟩; rw [H2.out]; first | exact ⟨rfl, hb⟩ | exact ⟨_, rfl, hb, rfl⟩)))
        refine Chain.done ?_
        intro vs w4 hE4 hd4
        simp only [Act.put, SP.pick, SP.is, SP.box, id_eq, List.take_succ_cons, List.take_zero, List.drop_succ_cons, List.drop_zero, List.setIfInBounds_toArray, List.set_cons_zero, List.set_cons_succ]
        clear hd4
        have E4 := Lib.hid (Ext.trans (Ext.alloc_ w (.cells #[.slice A n c, .int .i64 rg, .int .i64 sn] 74)) hE4)
        clear hE4
        go_wp2_with fail
        go_ret
        exact ⟨rfl, E4.out⟩
      · skip
        go_enter Try.func59, Try.ntmps59
        go_wp2_with fail
        refine wp_region_chain 23 (by kernel_rfl) (by kernel_rfl) ?_
        simp only [List.take_succ_cons, List.take_zero, List.drop_succ_cons, List.drop_zero]
        repeat (first | (apply Chain.quiet; · (intro vs wq hEq hd; obtain ⟨hcq, hfq⟩ := bcell hEq; clear hEq hd; (try simp only [Act.put, SP.pick, SP.is, SP.box, id_eq, List.take_succ_cons, List.take_zero, List.drop_succ_cons, List.drop_zero, List.setIfInBounds_toArray, List.set_cons_zero, List.set_cons_succ]); refine growOp_go ?_; go_simp; first | exact ⟨Ext.refl _, rfl⟩ | exact rfl | (split; (exfalso; omega); (first | exact ⟨Ext.refl _, rfl⟩ | exact rfl)) | (split; (first | exact ⟨Ext.refl _, rfl⟩ | exact rfl); (exfalso; omega)))) | (apply Chain.quiet; · (intro vs wq hEq hd; obtain ⟨hcq, hfq⟩ := bcell hEq; have hCq := Lib.hid (Cel.ext HC.out hEq); clear hEq hd; (try simp only [Act.put, SP.pick, SP.is, SP.box, id_eq, List.take_succ_cons, List.take_zero, List.drop_succ_cons, List.drop_zero, List.setIfInBounds_toArray, List.set_cons_zero, List.set_cons_succ]); refine growOp_go ?_; go_simp; refine (iPl _ _ _ _ _ _ P _ HN.out hCq.out hl).mono ?_; rintro e w5 ⟨rfl, hb⟩; rw [H1.out]; first | exact ⟨rfl, hb⟩ | exact ⟨_, rfl, hb, rfl⟩)) | (apply Chain.quiet; · (intro vs wq hEq hd; obtain ⟨hcq, hfq⟩ := bcell hEq; have hCq := Lib.hid (Cel.ext HC.out hEq); clear hEq hd; (try simp only [Act.put, SP.pick, SP.is, SP.box, id_eq, List.take_succ_cons, List.take_zero, List.drop_succ_cons, List.drop_zero, List.setIfInBounds_toArray, List.set_cons_zero, List.set_cons_succ]); refine growOp_go ?_; go_simp; refine (iPl _ _ _ _ _ _ P _ HN.out hCq.out hl).mono ?_; rintro e w5 ⟨rfl, hb⟩; rw [H2.out]; first | exact ⟨rfl, hb⟩ | exact ⟨_, rfl, hb, rfl⟩)))
        refine Chain.done ?_
        intro vs w4 hE4 hd4
        simp only [Act.put, SP.pick, SP.is, SP.box, id_eq, List.take_succ_cons, List.take_zero, List.drop_succ_cons, List.drop_zero, List.setIfInBounds_toArray, List.set_cons_zero, List.set_cons_succ]
        clear hd4
        have E4 := Lib.hid (Ext.trans (Ext.alloc_ w (.cells #[.slice A n c, .int .i64 rg, .int .i64 sn] 74)) hE4)
        clear hE4
        go_wp2_with fail
        go_ret
        exact ⟨rfl, E4.out⟩
  · have h1' : plB P a = false := by simpa using h1
    have HV := Lib.hid (cr_1 (rg := sn) (b := b) h1')
    rw [HV.out]
    have H1 := Lib.hid h1'
    clear h1 h1' HV
    by_cases h3 : a = b
    · subst h3
      go_enter Try.func59, Try.ntmps59
      go_wp2_with fail
      refine wp_region_chain 23 (by kernel_rfl) (by kernel_rfl) ?_
      simp only [List.take_succ_cons, List.take_zero, List.drop_succ_cons, List.drop_zero]
      repeat (first | (apply Chain.quiet; · (intro vs wq hEq hd; obtain ⟨hcq, hfq⟩ := bcell hEq; clear hEq hd; (try simp only [Act.put, SP.pick, SP.is, SP.box, id_eq, List.take_succ_cons, List.take_zero, List.drop_succ_cons, List.drop_zero, List.setIfInBounds_toArray, List.set_cons_zero, List.set_cons_succ]); refine growOp_go ?_; go_simp; first | exact ⟨Ext.refl _, rfl⟩ | exact rfl | (split; (exfalso; omega); (first | exact ⟨Ext.refl _, rfl⟩ | exact rfl)) | (split; (first | exact ⟨Ext.refl _, rfl⟩ | exact rfl); (exfalso; omega)))) | (apply Chain.quiet; · (intro vs wq hEq hd; obtain ⟨hcq, hfq⟩ := bcell hEq; have hCq := Lib.hid (Cel.ext HC.out hEq); clear hEq hd; (try simp only [Act.put, SP.pick, SP.is, SP.box, id_eq, List.take_succ_cons, List.take_zero, List.drop_succ_cons, List.drop_zero, List.setIfInBounds_toArray, List.set_cons_zero, List.set_cons_succ]); refine growOp_go ?_; go_simp; refine (iPl _ _ _ _ _ _ P _ HN.out hCq.out hl).mono ?_; rintro e w5 ⟨rfl, hb⟩; rw [H1.out]; first | exact ⟨rfl, hb⟩ | exact ⟨_, rfl, hb, rfl⟩)))
      refine Chain.done ?_
      intro vs w4 hE4 hd4
      simp only [Act.put, SP.pick, SP.is, SP.box, id_eq, List.take_succ_cons, List.take_zero, List.drop_succ_cons, List.drop_zero, List.setIfInBounds_toArray, List.set_cons_zero, List.set_cons_succ]
      clear hd4
      have E4 := Lib.hid (Ext.trans (Ext.alloc_ w (.cells #[.slice A n c, .int .i64 rg, .int .i64 sn] 74)) hE4)
      clear hE4
      go_wp2_with fail
      go_ret
      exact ⟨rfl, E4.out⟩
    · skip
      go_enter Try.func59, Try.ntmps59
      go_wp2_with fail
      refine wp_region_chain 23 (by kernel_rfl) (by kernel_rfl) ?_
      simp only [List.take_succ_cons, List.take_zero, List.drop_succ_cons, List.drop_zero]
      repeat (first | (apply Chain.quiet; · (intro vs wq hEq hd; obtain ⟨hcq, hfq⟩ := bcell hEq; clear hEq hd; (try simp only [Act.put, SP.pick, SP.is, SP.box, id_eq, List.take_succ_cons, List.take_zero, List.drop_succ_cons, List.drop_zero, List.setIfInBounds_toArray, List.set_cons_zero, List.set_cons_succ]); refine growOp_go ?_; go_simp; first | exact ⟨Ext.refl _, rfl⟩ | exact rfl | (split; (exfalso; omega); (first | exact ⟨Ext.refl _, rfl⟩ | exact rfl)) | (split; (first | exact ⟨Ext.refl _, rfl⟩ | exact rfl); (exfalso; omega)))) | (apply Chain.quiet; · (intro vs wq hEq hd; obtain ⟨hcq, hfq⟩ := bcell hEq; have hCq := Lib.hid (Cel.ext HC.out hEq); clear hEq hd; (try simp only [Act.put, SP.pick, SP.is, SP.box, id_eq, List.take_succ_cons, List.take_zero, List.drop_succ_cons, List.drop_zero, List.setIfInBounds_toArray, List.set_cons_zero, List.set_cons_succ]); refine growOp_go ?_; go_simp; refine (iPl _ _ _ _ _ _ P _ HN.out hCq.out hl).mono ?_; rintro e w5 ⟨rfl, hb⟩; rw [H1.out]; first | exact ⟨rfl, hb⟩ | exact ⟨_, rfl, hb, rfl⟩)))
      refine Chain.done ?_
      intro vs w4 hE4 hd4
      simp only [Act.put, SP.pick, SP.is, SP.box, id_eq, List.take_succ_cons, List.take_zero, List.drop_succ_cons, List.drop_zero, List.setIfInBounds_toArray, List.set_cons_zero, List.set_cons_succ]
      clear hd4
      have E4 := Lib.hid (Ext.trans (Ext.alloc_ w (.cells #[.slice A n c, .int .i64 rg, .int .i64 sn] 74)) hE4)
      clear hE4
      go_wp2_with fail
      go_ret
      exact ⟨rfl, E4.out⟩
end Go.Proofs.Ytkmklafjcjkpdaa
