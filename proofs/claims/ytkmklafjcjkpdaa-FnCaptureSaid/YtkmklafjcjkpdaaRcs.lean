/- Who is received: the reference's walk. -/
import Derived.Test.YtkmklafjcjkpdaaPls
namespace Go.Proofs.Ytkmklafjcjkpdaa
open Go.RowKit
set_option linter.unusedVariables false
set_option linter.unusedSimpArgs false
theorem bst_yes {D : Int → Int} {S : Int → Bool} {L : List Int} {k : Nat} (hk : k < L.length) (h : S L[k] = true ∧ (bst D S L k < 0 ∨ D L[k] < D (bst D S L k) ∨ (D L[k] = D (bst D S L k) ∧ L[k] < bst D S L k))) : bst D S L (k + 1) = L[k] := by
  rw [bst, List.getElem?_eq_getElem hk]
  simp only
  rw [if_pos h]
theorem bst_no {D : Int → Int} {S : Int → Bool} {L : List Int} {k : Nat} (hk : k < L.length) (h : ¬ (S L[k] = true ∧ (bst D S L k < 0 ∨ D L[k] < D (bst D S L k) ∨ (D L[k] = D (bst D S L k) ∧ L[k] < bst D S L k)))) : bst D S L (k + 1) = bst D S L k := by
  rw [bst, List.getElem?_eq_getElem hk]
  simp only
  rw [if_neg h]
theorem rf_eq {P : List Int} {rg sn r b : Int} {L : List Int} {D : Int → Int} {S : Int → Bool} (hD : (fun s => dstV P s r) = D) (hS : (fun s => crB P sn s r) = S) (h1 : plB P r = true) (h2 : r ∉ L) (hb : bst D S L L.length = b) : rfV P rg sn L r = if b < 0 ∨ crB P rg b r = false ∨ capB D S L b = true then -1 else b := by
  subst hb
  unfold rfV
  rw [if_neg (by rw [h1]; decide), if_neg h2, hD, hS]
theorem notin_take {L : List Int} {r : Int} {k : Nat} (hk : k < L.length) (h : r ∉ L.take k) (hne : ¬ L[k] = r) : r ∉ L.take (k + 1) := by
  rw [List.take_succ_eq_append_getElem hk]
  simp only [List.mem_append, List.mem_singleton, not_or]
  exact ⟨h, fun h => hne h.symm⟩
theorem all_take {L : List Int} {p : Int → Prop} {k : Nat} (hk : k < L.length) (h : ∀ s ∈ L.take k, p s) (hne : p L[k]) : ∀ s ∈ L.take (k + 1), p s := by
  intro s hs
  rw [List.take_succ_eq_append_getElem hk] at hs
  rcases List.mem_append.1 hs with h1 | h1
  · exact h s h1
  · simp at h1
    subst h1
    exact hne
theorem cap_no {L : List Int} {D : Int → Int} {S : Int → Bool} {b : Int} (h : ∀ s ∈ L, ¬ (s ≠ b ∧ S s = true ∧ D s < wrap64 (2 * D b))) : capB D S L b = false := by
  unfold capB
  rw [List.any_eq_false]
  intro s hs h2
  simp only [Bool.and_eq_true, bne_iff_ne, ne_eq, decide_eq_true_eq] at h2
  exact h s hs ⟨h2.1.1, h2.1.2, h2.2⟩
theorem cap_yes {L : List Int} {D : Int → Int} {S : Int → Bool} {b s : Int} (hs : s ∈ L) (h1 : s ≠ b) (h2 : S s = true) (h3 : D s < wrap64 (2 * D b)) : capB D S L b = true := by
  unfold capB
  rw [List.any_eq_true]
  exact ⟨s, hs, by simp [h1, h2, h3]⟩
set_option maxRecDepth 8000 in
set_option maxHeartbeats 4000000 in
theorem sRcv (w : World) (A As : Option Addr) (n c ns cs : Nat) (rg sn r : Int) (P L : List Int) (hn : P.length = n) (hC : Cel w A (P.map (Value.int .i64))) (hl : n ≤ 1048576) (hns : L.length = ns) (hCs : Cel w As (L.map (Value.int .i64))) (hls : ns ≤ 1048576) :
    Calls Try.prog 52 #[.agg #[.slice A n c, .int .i64 rg, .int .i64 sn], .slice As ns cs, .int .i64 r] w fun e w' => e = .returned (.int .i64 (rfV P rg sn L r)) ∧ Ext w w' := by
  have b1 := Lib.hid (new_blk1 w #[.slice A n c, .int .i64 rg, .int .i64 sn] 74)
  have E0 := Lib.hid (Ext.alloc_ w (.cells #[.slice A n c, .int .i64 rg, .int .i64 sn] 74))
  have HC := Lib.hid (hC.ext E0.out)
  have HL := Lib.hid (hCs.ext E0.out)
  have HN := Lib.hid hn
  have HM := Lib.hid hns
  obtain ⟨V, hV⟩ : ∃ V, rfV P rg sn L r = V := ⟨_, rfl⟩
  rw [hV]
  clear hC hn hCs hns
  cases hpl : plB P r with
  | false =>
    have HV := Lib.hid (show V = -1 by rw [← hV]; unfold rfV; rw [if_pos hpl])
    clear hV
    obtain ⟨x1, x2, x3⟩ := blk_cells (b1.out)
    have p0 := x1 0
    have p1 := x1 1
    have p2 := x1 2
    simp at p0 p1 p2
    clear x1
    go_enter Try.func52, Try.ntmps52
    go_wp2_with fail
    refine (sPl _ _ _ _ _ _ P _ HN.out HC.out hl).mono ?_
    rintro e w1 ⟨rfl, h1⟩
    rw [hpl]
    have E1 := Lib.hid (Ext.trans E0.out h1)
    clear h1
    go_wp2_with fail
    go_ret
    exact ⟨by rw [HV.out]; rfl, E1.out⟩
  | true =>
    obtain ⟨D, hD⟩ : ∃ D : Int → Int, (fun s => dstV P s r) = D := ⟨_, rfl⟩
    obtain ⟨S, hS⟩ : ∃ S : Int → Bool, (fun s => crB P sn s r) = S := ⟨_, rfl⟩
    have HV := Lib.hid hV
    have HP := Lib.hid hpl
    have HD := Lib.hid hD
    have HS := Lib.hid hS
    have hDs := Lib.hid (fun s => (congrFun hD s : dstV P s r = D s))
    have hSs := Lib.hid (fun s => (congrFun hS s : crB P sn s r = S s))
    clear hV hpl hD hS
    obtain ⟨x1, x2, x3⟩ := blk_cells (b1.out)
    have p0 := x1 0
    have p1 := x1 1
    have p2 := x1 2
    simp at p0 p1 p2
    clear x1
    go_enter Try.func52, Try.ntmps52
    go_wp2_with fail
    refine (sPl _ _ _ _ _ _ P _ HN.out HC.out hl).mono ?_
    rintro e w1 ⟨rfl, h1⟩
    rw [HP.out]
    have E1 := Lib.hid (Ext.trans E0.out h1)
    have b2 := Lib.hid (ext_blk h1 b1.out)
    have HC1 := Lib.hid (HC.out.ext h1)
    have HL1 := Lib.hid (HL.out.ext h1)
    clear h1 E0 b1 HC HL p0 p1 p2 x2 x3
    go_wp2_with fail
    go_loopw [7, 8] (fun bv i wr => ∃ k : Nat, k ≤ ns ∧ bv = .int .i64 (bst D S L k) ∧ i = .int .i64 k ∧ Hid (r ∉ L.take k) ∧ Hid (Ext w1 wr)) (fun _ i _ => ns - (intOf i).toNat)
    case atStart => exact ⟨0, Nat.zero_le _, rfl, rfl, Lib.hid (by simp), Lib.hid (Ext.refl _)⟩
    case round =>
      obtain ⟨k, hk, rfl, rfl, hNI, hE⟩ := hrel
      obtain ⟨x1, x2, x3⟩ := blk_cells (ext_blk hE.out b2.out)
      have p0 := x1 0
      have p1 := x1 1
      have p2 := x1 2
      simp at p0 p1 p2
      clear x1
      have HW := Lib.hid (HC1.out.ext hE.out)
      by_cases hlt : k < ns
      · have hkl : k < L.length := by rw [HM.out]; exact hlt
        obtain ⟨bs, os, rfl, h5, h6⟩ := (HL1.out.ext hE.out).map_at (List.ne_nil_of_length_pos (by omega))
        have hck := h6 k hkl
        have hlt' : (k : Int) < (ns : Int) := by omega
        have hk0 : (0 : Int) ≤ (k : Int) := by omega
        have hy := Lib.hid (bst_yes (D := D) (S := S) hkl)
        have hno := Lib.hid (bst_no (D := D) (S := S) hkl)
        have hnt := Lib.hid (notin_take (r := r) hkl hNI.out)
        have hmem := Lib.hid (List.getElem_mem hkl)
        generalize L[k] = s at *
        clear h6
        by_cases hsr : s = r
        · have HV2 := Lib.hid (show V = -1 by rw [← HV.out]; exact rf_in (by rw [← hsr]; exact hmem.out))
          go_wp2_with fail
          go_ret
          exact ⟨by rw [HV2.out]; rfl, Ext.trans E1.out hE.out⟩
        · have hNI2 := Lib.hid (hnt.out hsr)
          go_wp2_with fail
          refine (sCs _ _ _ _ _ _ P _ _ HN.out HW.out hl).mono ?_
          rintro e w3 ⟨rfl, h3⟩
          rw [hSs.out s]
          have E3 := Lib.hid (Ext.trans hE.out h3)
          have HW3 := Lib.hid (HW.out.ext h3)
          clear h3 HW p0 p1 p2 x2 x3 hck
          cases hs : S s with
          | false =>
            have hb := Lib.hid (hno.out (fun h => by rw [hs] at h; cases h.1))
            go_wp2_with fail
            go_roundw
            case rel => exact ⟨k + 1, by omega, by rw [hb.out], by go_num, hNI2, E3⟩
            case measure => simp [intOf]; omega
          | true =>
            obtain ⟨x1, x2, x3⟩ := blk_cells (ext_blk E3.out b2.out)
            have p0 := x1 0
            have p1 := x1 1
            have p2 := x1 2
            simp at p0 p1 p2
            clear x1
            have HW := Lib.hid HW3.out
            obtain ⟨b, hbe⟩ : ∃ b, bst D S L k = b := ⟨_, rfl⟩
            rw [hbe] at hy hno ⊢
            obtain ⟨xs, hxs⟩ : ∃ x, D s = x := ⟨_, rfl⟩
            obtain ⟨xb, hxb⟩ : ∃ x, D b = x := ⟨_, rfl⟩
            rw [hxs, hxb] at hy hno
            have Y1 := Lib.hid (show dstV P s r = xs from (hDs.out s).trans hxs)
            have Y2 := Lib.hid (show dstV P b r = xb from (hDs.out b).trans hxb)
            have HS1 := Lib.hid hs
            clear hbe hxs hxb hs HW3
            by_cases c1 : b < 0
            · have hb := Lib.hid (hy.out ⟨HS1.out, .inl c1⟩)
              go_wp2_with fail
              refine wp_region_chain 29 (by kernel_rfl) (by kernel_rfl) ?_
              simp only [List.take_succ_cons, List.take_zero, List.drop_succ_cons, List.drop_zero]
              (apply Chain.quiet; · (intro vs wq hEq hd; obtain ⟨hcq, hfq⟩ := bcell hEq; clear hEq hd; (try simp only [Act.put, SP.pick, SP.is, SP.box, id_eq, List.take_succ_cons, List.take_zero, List.drop_succ_cons, List.drop_zero, List.setIfInBounds_toArray, List.set_cons_zero, List.set_cons_succ]); refine growOp_go ?_; go_simp; first | exact ⟨Ext.refl _, rfl⟩ | exact rfl | (split; (exfalso; omega); (first | exact ⟨Ext.refl _, rfl⟩ | exact rfl)) | (split; (first | exact ⟨Ext.refl _, rfl⟩ | exact rfl); (exfalso; omega))))
              (refine Chain.quiet (V := .bool true) ?_ ?_; · (intro vs wq hEq hd; obtain ⟨hcq, hfq⟩ := bcell hEq; clear hEq hd; (try simp only [Act.put, SP.pick, SP.is, SP.box, id_eq, List.take_succ_cons, List.take_zero, List.drop_succ_cons, List.drop_zero, List.setIfInBounds_toArray, List.set_cons_zero, List.set_cons_succ]); refine growOp_go ?_; go_simp; first | exact Ext.refl _ | exact ⟨Ext.refl _, rfl⟩ | (refine ⟨Ext.refl _, ?_⟩; first | omega | (simp; omega) | (simp; done))))
              iterate 27 (apply Chain.quiet; · (intro vs wq hEq hd; obtain ⟨hcq, hfq⟩ := bcell hEq; clear hEq hd; (try simp only [Act.put, SP.pick, SP.is, SP.box, id_eq, List.take_succ_cons, List.take_zero, List.drop_succ_cons, List.drop_zero, List.setIfInBounds_toArray, List.set_cons_zero, List.set_cons_succ]); refine growOp_go ?_; go_simp; first | exact ⟨Ext.refl _, rfl⟩ | exact rfl | (split; (exfalso; omega); (first | exact ⟨Ext.refl _, rfl⟩ | exact rfl)) | (split; (first | exact ⟨Ext.refl _, rfl⟩ | exact rfl); (exfalso; omega))))
              refine Chain.done ?_
              intro vs w5 hE5 hd5
              simp only [Act.put, SP.pick, SP.is, SP.box, id_eq, List.take_succ_cons, List.take_zero, List.drop_succ_cons, List.drop_zero, List.setIfInBounds_toArray, List.set_cons_zero, List.set_cons_succ]
              clear hd5
              have E5 := Lib.hid (Ext.trans E3.out hE5)
              clear hE5
              go_wp2_with fail
              go_roundw
              case rel => exact ⟨k + 1, by omega, by rw [hb.out], by go_num, hNI2, E5⟩
              case measure => simp [intOf]; omega
            by_cases c2 : xs < xb
            · have hb := Lib.hid (hy.out ⟨HS1.out, .inr (.inl c2)⟩)
              go_wp2_with fail
              refine wp_region_chain 29 (by kernel_rfl) (by kernel_rfl) ?_
              simp only [List.take_succ_cons, List.take_zero, List.drop_succ_cons, List.drop_zero]
              (apply Chain.quiet; · (intro vs wq hEq hd; obtain ⟨hcq, hfq⟩ := bcell hEq; clear hEq hd; (try simp only [Act.put, SP.pick, SP.is, SP.box, id_eq, List.take_succ_cons, List.take_zero, List.drop_succ_cons, List.drop_zero, List.setIfInBounds_toArray, List.set_cons_zero, List.set_cons_succ]); refine growOp_go ?_; go_simp; first | exact ⟨Ext.refl _, rfl⟩ | exact rfl | (split; (exfalso; omega); (first | exact ⟨Ext.refl _, rfl⟩ | exact rfl)) | (split; (first | exact ⟨Ext.refl _, rfl⟩ | exact rfl); (exfalso; omega))))
              (refine Chain.quiet (V := .bool false) ?_ ?_; · (intro vs wq hEq hd; obtain ⟨hcq, hfq⟩ := bcell hEq; clear hEq hd; (try simp only [Act.put, SP.pick, SP.is, SP.box, id_eq, List.take_succ_cons, List.take_zero, List.drop_succ_cons, List.drop_zero, List.setIfInBounds_toArray, List.set_cons_zero, List.set_cons_succ]); refine growOp_go ?_; go_simp; first | exact Ext.refl _ | exact ⟨Ext.refl _, rfl⟩ | (refine ⟨Ext.refl _, ?_⟩; first | omega | (simp; omega) | (simp; done))))
              iterate 4 (apply Chain.quiet; · (intro vs wq hEq hd; obtain ⟨hcq, hfq⟩ := bcell hEq; clear hEq hd; (try simp only [Act.put, SP.pick, SP.is, SP.box, id_eq, List.take_succ_cons, List.take_zero, List.drop_succ_cons, List.drop_zero, List.setIfInBounds_toArray, List.set_cons_zero, List.set_cons_succ]); refine growOp_go ?_; go_simp; first | exact ⟨Ext.refl _, rfl⟩ | exact rfl | (split; (exfalso; omega); (first | exact ⟨Ext.refl _, rfl⟩ | exact rfl)) | (split; (first | exact ⟨Ext.refl _, rfl⟩ | exact rfl); (exfalso; omega))))
              (apply Chain.quiet; · (intro vs wq hEq hd; obtain ⟨hcq, hfq⟩ := bcell hEq; have hCq := Lib.hid (Cel.ext HW.out hEq); clear hEq hd; (try simp only [Act.put, SP.pick, SP.is, SP.box, id_eq, List.take_succ_cons, List.take_zero, List.drop_succ_cons, List.drop_zero, List.setIfInBounds_toArray, List.set_cons_zero, List.set_cons_succ]); refine growOp_go ?_; go_simp; refine (sDst _ _ _ _ _ _ P _ _ HN.out hCq.out hl).mono ?_; rintro e w5 ⟨rfl, hb⟩; rw [Y1.out]; first | exact ⟨rfl, hb⟩ | exact ⟨_, rfl, hb, rfl⟩))
              iterate 3 (apply Chain.quiet; · (intro vs wq hEq hd; obtain ⟨hcq, hfq⟩ := bcell hEq; clear hEq hd; (try simp only [Act.put, SP.pick, SP.is, SP.box, id_eq, List.take_succ_cons, List.take_zero, List.drop_succ_cons, List.drop_zero, List.setIfInBounds_toArray, List.set_cons_zero, List.set_cons_succ]); refine growOp_go ?_; go_simp; first | exact ⟨Ext.refl _, rfl⟩ | exact rfl | (split; (exfalso; omega); (first | exact ⟨Ext.refl _, rfl⟩ | exact rfl)) | (split; (first | exact ⟨Ext.refl _, rfl⟩ | exact rfl); (exfalso; omega))))
              (apply Chain.quiet; · (intro vs wq hEq hd; obtain ⟨hcq, hfq⟩ := bcell hEq; have hCq := Lib.hid (Cel.ext HW.out hEq); clear hEq hd; (try simp only [Act.put, SP.pick, SP.is, SP.box, id_eq, List.take_succ_cons, List.take_zero, List.drop_succ_cons, List.drop_zero, List.setIfInBounds_toArray, List.set_cons_zero, List.set_cons_succ]); refine growOp_go ?_; go_simp; refine (sDst _ _ _ _ _ _ P _ _ HN.out hCq.out hl).mono ?_; rintro e w5 ⟨rfl, hb⟩; rw [Y2.out]; first | exact ⟨rfl, hb⟩ | exact ⟨_, rfl, hb, rfl⟩))
              (refine Chain.quiet (V := .bool true) ?_ ?_; · (intro vs wq hEq hd; obtain ⟨hcq, hfq⟩ := bcell hEq; clear hEq hd; (try simp only [Act.put, SP.pick, SP.is, SP.box, id_eq, List.take_succ_cons, List.take_zero, List.drop_succ_cons, List.drop_zero, List.setIfInBounds_toArray, List.set_cons_zero, List.set_cons_succ]); refine growOp_go ?_; go_simp; first | exact Ext.refl _ | exact ⟨Ext.refl _, rfl⟩ | (refine ⟨Ext.refl _, ?_⟩; first | omega | (simp; omega) | (simp; done))))
              iterate 17 (apply Chain.quiet; · (intro vs wq hEq hd; obtain ⟨hcq, hfq⟩ := bcell hEq; clear hEq hd; (try simp only [Act.put, SP.pick, SP.is, SP.box, id_eq, List.take_succ_cons, List.take_zero, List.drop_succ_cons, List.drop_zero, List.setIfInBounds_toArray, List.set_cons_zero, List.set_cons_succ]); refine growOp_go ?_; go_simp; first | exact ⟨Ext.refl _, rfl⟩ | exact rfl | (split; (exfalso; omega); (first | exact ⟨Ext.refl _, rfl⟩ | exact rfl)) | (split; (first | exact ⟨Ext.refl _, rfl⟩ | exact rfl); (exfalso; omega))))
              refine Chain.done ?_
              intro vs w5 hE5 hd5
              simp only [Act.put, SP.pick, SP.is, SP.box, id_eq, List.take_succ_cons, List.take_zero, List.drop_succ_cons, List.drop_zero, List.setIfInBounds_toArray, List.set_cons_zero, List.set_cons_succ]
              clear hd5
              have E5 := Lib.hid (Ext.trans E3.out hE5)
              clear hE5
              go_wp2_with fail
              go_roundw
              case rel => exact ⟨k + 1, by omega, by rw [hb.out], by go_num, hNI2, E5⟩
              case measure => simp [intOf]; omega
            by_cases c3 : xs = xb
            · by_cases c4 : s < b
              · have hb := Lib.hid (hy.out ⟨HS1.out, .inr (.inr ⟨c3, c4⟩)⟩)
                subst c3
                go_wp2_with fail
                refine wp_region_chain 29 (by kernel_rfl) (by kernel_rfl) ?_
                simp only [List.take_succ_cons, List.take_zero, List.drop_succ_cons, List.drop_zero]
                (apply Chain.quiet; · (intro vs wq hEq hd; obtain ⟨hcq, hfq⟩ := bcell hEq; clear hEq hd; (try simp only [Act.put, SP.pick, SP.is, SP.box, id_eq, List.take_succ_cons, List.take_zero, List.drop_succ_cons, List.drop_zero, List.setIfInBounds_toArray, List.set_cons_zero, List.set_cons_succ]); refine growOp_go ?_; go_simp; first | exact ⟨Ext.refl _, rfl⟩ | exact rfl | (split; (exfalso; omega); (first | exact ⟨Ext.refl _, rfl⟩ | exact rfl)) | (split; (first | exact ⟨Ext.refl _, rfl⟩ | exact rfl); (exfalso; omega))))
                (refine Chain.quiet (V := .bool false) ?_ ?_; · (intro vs wq hEq hd; obtain ⟨hcq, hfq⟩ := bcell hEq; clear hEq hd; (try simp only [Act.put, SP.pick, SP.is, SP.box, id_eq, List.take_succ_cons, List.take_zero, List.drop_succ_cons, List.drop_zero, List.setIfInBounds_toArray, List.set_cons_zero, List.set_cons_succ]); refine growOp_go ?_; go_simp; first | exact Ext.refl _ | exact ⟨Ext.refl _, rfl⟩ | (refine ⟨Ext.refl _, ?_⟩; first | omega | (simp; omega) | (simp; done))))
                iterate 4 (apply Chain.quiet; · (intro vs wq hEq hd; obtain ⟨hcq, hfq⟩ := bcell hEq; clear hEq hd; (try simp only [Act.put, SP.pick, SP.is, SP.box, id_eq, List.take_succ_cons, List.take_zero, List.drop_succ_cons, List.drop_zero, List.setIfInBounds_toArray, List.set_cons_zero, List.set_cons_succ]); refine growOp_go ?_; go_simp; first | exact ⟨Ext.refl _, rfl⟩ | exact rfl | (split; (exfalso; omega); (first | exact ⟨Ext.refl _, rfl⟩ | exact rfl)) | (split; (first | exact ⟨Ext.refl _, rfl⟩ | exact rfl); (exfalso; omega))))
                (apply Chain.quiet; · (intro vs wq hEq hd; obtain ⟨hcq, hfq⟩ := bcell hEq; have hCq := Lib.hid (Cel.ext HW.out hEq); clear hEq hd; (try simp only [Act.put, SP.pick, SP.is, SP.box, id_eq, List.take_succ_cons, List.take_zero, List.drop_succ_cons, List.drop_zero, List.setIfInBounds_toArray, List.set_cons_zero, List.set_cons_succ]); refine growOp_go ?_; go_simp; refine (sDst _ _ _ _ _ _ P _ _ HN.out hCq.out hl).mono ?_; rintro e w5 ⟨rfl, hb⟩; rw [Y1.out]; first | exact ⟨rfl, hb⟩ | exact ⟨_, rfl, hb, rfl⟩))
                iterate 3 (apply Chain.quiet; · (intro vs wq hEq hd; obtain ⟨hcq, hfq⟩ := bcell hEq; clear hEq hd; (try simp only [Act.put, SP.pick, SP.is, SP.box, id_eq, List.take_succ_cons, List.take_zero, List.drop_succ_cons, List.drop_zero, List.setIfInBounds_toArray, List.set_cons_zero, List.set_cons_succ]); refine growOp_go ?_; go_simp; first | exact ⟨Ext.refl _, rfl⟩ | exact rfl | (split; (exfalso; omega); (first | exact ⟨Ext.refl _, rfl⟩ | exact rfl)) | (split; (first | exact ⟨Ext.refl _, rfl⟩ | exact rfl); (exfalso; omega))))
                (apply Chain.quiet; · (intro vs wq hEq hd; obtain ⟨hcq, hfq⟩ := bcell hEq; have hCq := Lib.hid (Cel.ext HW.out hEq); clear hEq hd; (try simp only [Act.put, SP.pick, SP.is, SP.box, id_eq, List.take_succ_cons, List.take_zero, List.drop_succ_cons, List.drop_zero, List.setIfInBounds_toArray, List.set_cons_zero, List.set_cons_succ]); refine growOp_go ?_; go_simp; refine (sDst _ _ _ _ _ _ P _ _ HN.out hCq.out hl).mono ?_; rintro e w5 ⟨rfl, hb⟩; rw [Y2.out]; first | exact ⟨rfl, hb⟩ | exact ⟨_, rfl, hb, rfl⟩))
                (refine Chain.quiet (V := .bool false) ?_ ?_; · (intro vs wq hEq hd; obtain ⟨hcq, hfq⟩ := bcell hEq; clear hEq hd; (try simp only [Act.put, SP.pick, SP.is, SP.box, id_eq, List.take_succ_cons, List.take_zero, List.drop_succ_cons, List.drop_zero, List.setIfInBounds_toArray, List.set_cons_zero, List.set_cons_succ]); refine growOp_go ?_; go_simp; first | exact Ext.refl _ | exact ⟨Ext.refl _, rfl⟩ | (refine ⟨Ext.refl _, ?_⟩; first | omega | (simp; omega) | (simp; done))))
                iterate 5 (apply Chain.quiet; · (intro vs wq hEq hd; obtain ⟨hcq, hfq⟩ := bcell hEq; clear hEq hd; (try simp only [Act.put, SP.pick, SP.is, SP.box, id_eq, List.take_succ_cons, List.take_zero, List.drop_succ_cons, List.drop_zero, List.setIfInBounds_toArray, List.set_cons_zero, List.set_cons_succ]); refine growOp_go ?_; go_simp; first | exact ⟨Ext.refl _, rfl⟩ | exact rfl | (split; (exfalso; omega); (first | exact ⟨Ext.refl _, rfl⟩ | exact rfl)) | (split; (first | exact ⟨Ext.refl _, rfl⟩ | exact rfl); (exfalso; omega))))
                (apply Chain.quiet; · (intro vs wq hEq hd; obtain ⟨hcq, hfq⟩ := bcell hEq; have hCq := Lib.hid (Cel.ext HW.out hEq); clear hEq hd; (try simp only [Act.put, SP.pick, SP.is, SP.box, id_eq, List.take_succ_cons, List.take_zero, List.drop_succ_cons, List.drop_zero, List.setIfInBounds_toArray, List.set_cons_zero, List.set_cons_succ]); refine growOp_go ?_; go_simp; refine (sDst _ _ _ _ _ _ P _ _ HN.out hCq.out hl).mono ?_; rintro e w5 ⟨rfl, hb⟩; rw [Y1.out]; first | exact ⟨rfl, hb⟩ | exact ⟨_, rfl, hb, rfl⟩))
                iterate 3 (apply Chain.quiet; · (intro vs wq hEq hd; obtain ⟨hcq, hfq⟩ := bcell hEq; clear hEq hd; (try simp only [Act.put, SP.pick, SP.is, SP.box, id_eq, List.take_succ_cons, List.take_zero, List.drop_succ_cons, List.drop_zero, List.setIfInBounds_toArray, List.set_cons_zero, List.set_cons_succ]); refine growOp_go ?_; go_simp; first | exact ⟨Ext.refl _, rfl⟩ | exact rfl | (split; (exfalso; omega); (first | exact ⟨Ext.refl _, rfl⟩ | exact rfl)) | (split; (first | exact ⟨Ext.refl _, rfl⟩ | exact rfl); (exfalso; omega))))
                (apply Chain.quiet; · (intro vs wq hEq hd; obtain ⟨hcq, hfq⟩ := bcell hEq; have hCq := Lib.hid (Cel.ext HW.out hEq); clear hEq hd; (try simp only [Act.put, SP.pick, SP.is, SP.box, id_eq, List.take_succ_cons, List.take_zero, List.drop_succ_cons, List.drop_zero, List.setIfInBounds_toArray, List.set_cons_zero, List.set_cons_succ]); refine growOp_go ?_; go_simp; refine (sDst _ _ _ _ _ _ P _ _ HN.out hCq.out hl).mono ?_; rintro e w5 ⟨rfl, hb⟩; rw [Y2.out]; first | exact ⟨rfl, hb⟩ | exact ⟨_, rfl, hb, rfl⟩))
                (refine Chain.quiet (V := .bool true) ?_ ?_; · (intro vs wq hEq hd; obtain ⟨hcq, hfq⟩ := bcell hEq; clear hEq hd; (try simp only [Act.put, SP.pick, SP.is, SP.box, id_eq, List.take_succ_cons, List.take_zero, List.drop_succ_cons, List.drop_zero, List.setIfInBounds_toArray, List.set_cons_zero, List.set_cons_succ]); refine growOp_go ?_; go_simp; first | exact Ext.refl _ | exact ⟨Ext.refl _, rfl⟩ | (refine ⟨Ext.refl _, ?_⟩; first | omega | (simp; omega) | (simp; done))))
                iterate 3 (apply Chain.quiet; · (intro vs wq hEq hd; obtain ⟨hcq, hfq⟩ := bcell hEq; clear hEq hd; (try simp only [Act.put, SP.pick, SP.is, SP.box, id_eq, List.take_succ_cons, List.take_zero, List.drop_succ_cons, List.drop_zero, List.setIfInBounds_toArray, List.set_cons_zero, List.set_cons_succ]); refine growOp_go ?_; go_simp; first | exact ⟨Ext.refl _, rfl⟩ | exact rfl | (split; (exfalso; omega); (first | exact ⟨Ext.refl _, rfl⟩ | exact rfl)) | (split; (first | exact ⟨Ext.refl _, rfl⟩ | exact rfl); (exfalso; omega))))
                (refine Chain.quiet (V := .bool true) ?_ ?_; · (intro vs wq hEq hd; obtain ⟨hcq, hfq⟩ := bcell hEq; clear hEq hd; (try simp only [Act.put, SP.pick, SP.is, SP.box, id_eq, List.take_succ_cons, List.take_zero, List.drop_succ_cons, List.drop_zero, List.setIfInBounds_toArray, List.set_cons_zero, List.set_cons_succ]); refine growOp_go ?_; go_simp; first | exact Ext.refl _ | exact ⟨Ext.refl _, rfl⟩ | (refine ⟨Ext.refl _, ?_⟩; first | omega | (simp; omega) | (simp; done))))
                iterate 2 (apply Chain.quiet; · (intro vs wq hEq hd; obtain ⟨hcq, hfq⟩ := bcell hEq; clear hEq hd; (try simp only [Act.put, SP.pick, SP.is, SP.box, id_eq, List.take_succ_cons, List.take_zero, List.drop_succ_cons, List.drop_zero, List.setIfInBounds_toArray, List.set_cons_zero, List.set_cons_succ]); refine growOp_go ?_; go_simp; first | exact ⟨Ext.refl _, rfl⟩ | exact rfl | (split; (exfalso; omega); (first | exact ⟨Ext.refl _, rfl⟩ | exact rfl)) | (split; (first | exact ⟨Ext.refl _, rfl⟩ | exact rfl); (exfalso; omega))))
                refine Chain.done ?_
                intro vs w5 hE5 hd5
                simp only [Act.put, SP.pick, SP.is, SP.box, id_eq, List.take_succ_cons, List.take_zero, List.drop_succ_cons, List.drop_zero, List.setIfInBounds_toArray, List.set_cons_zero, List.set_cons_succ]
                clear hd5
                have E5 := Lib.hid (Ext.trans E3.out hE5)
                clear hE5
                go_wp2_with fail
                go_roundw
                case rel => exact ⟨k + 1, by omega, by rw [hb.out], by go_num, hNI2, E5⟩
                case measure => simp [intOf]; omega
              · have hb := Lib.hid (hno.out (fun h => by rcases h.2 with h | h | h; exact c1 h; exact c2 h; exact c4 h.2))
                subst c3
                go_wp2_with fail
                refine wp_region_chain 29 (by kernel_rfl) (by kernel_rfl) ?_
                simp only [List.take_succ_cons, List.take_zero, List.drop_succ_cons, List.drop_zero]
                (apply Chain.quiet; · (intro vs wq hEq hd; obtain ⟨hcq, hfq⟩ := bcell hEq; clear hEq hd; (try simp only [Act.put, SP.pick, SP.is, SP.box, id_eq, List.take_succ_cons, List.take_zero, List.drop_succ_cons, List.drop_zero, List.setIfInBounds_toArray, List.set_cons_zero, List.set_cons_succ]); refine growOp_go ?_; go_simp; first | exact ⟨Ext.refl _, rfl⟩ | exact rfl | (split; (exfalso; omega); (first | exact ⟨Ext.refl _, rfl⟩ | exact rfl)) | (split; (first | exact ⟨Ext.refl _, rfl⟩ | exact rfl); (exfalso; omega))))
                (refine Chain.quiet (V := .bool false) ?_ ?_; · (intro vs wq hEq hd; obtain ⟨hcq, hfq⟩ := bcell hEq; clear hEq hd; (try simp only [Act.put, SP.pick, SP.is, SP.box, id_eq, List.take_succ_cons, List.take_zero, List.drop_succ_cons, List.drop_zero, List.setIfInBounds_toArray, List.set_cons_zero, List.set_cons_succ]); refine growOp_go ?_; go_simp; first | exact Ext.refl _ | exact ⟨Ext.refl _, rfl⟩ | (refine ⟨Ext.refl _, ?_⟩; first | omega | (simp; omega) | (simp; done))))
                iterate 4 (apply Chain.quiet; · (intro vs wq hEq hd; obtain ⟨hcq, hfq⟩ := bcell hEq; clear hEq hd; (try simp only [Act.put, SP.pick, SP.is, SP.box, id_eq, List.take_succ_cons, List.take_zero, List.drop_succ_cons, List.drop_zero, List.setIfInBounds_toArray, List.set_cons_zero, List.set_cons_succ]); refine growOp_go ?_; go_simp; first | exact ⟨Ext.refl _, rfl⟩ | exact rfl | (split; (exfalso; omega); (first | exact ⟨Ext.refl _, rfl⟩ | exact rfl)) | (split; (first | exact ⟨Ext.refl _, rfl⟩ | exact rfl); (exfalso; omega))))
                (apply Chain.quiet; · (intro vs wq hEq hd; obtain ⟨hcq, hfq⟩ := bcell hEq; have hCq := Lib.hid (Cel.ext HW.out hEq); clear hEq hd; (try simp only [Act.put, SP.pick, SP.is, SP.box, id_eq, List.take_succ_cons, List.take_zero, List.drop_succ_cons, List.drop_zero, List.setIfInBounds_toArray, List.set_cons_zero, List.set_cons_succ]); refine growOp_go ?_; go_simp; refine (sDst _ _ _ _ _ _ P _ _ HN.out hCq.out hl).mono ?_; rintro e w5 ⟨rfl, hb⟩; rw [Y1.out]; first | exact ⟨rfl, hb⟩ | exact ⟨_, rfl, hb, rfl⟩))
                iterate 3 (apply Chain.quiet; · (intro vs wq hEq hd; obtain ⟨hcq, hfq⟩ := bcell hEq; clear hEq hd; (try simp only [Act.put, SP.pick, SP.is, SP.box, id_eq, List.take_succ_cons, List.take_zero, List.drop_succ_cons, List.drop_zero, List.setIfInBounds_toArray, List.set_cons_zero, List.set_cons_succ]); refine growOp_go ?_; go_simp; first | exact ⟨Ext.refl _, rfl⟩ | exact rfl | (split; (exfalso; omega); (first | exact ⟨Ext.refl _, rfl⟩ | exact rfl)) | (split; (first | exact ⟨Ext.refl _, rfl⟩ | exact rfl); (exfalso; omega))))
                (apply Chain.quiet; · (intro vs wq hEq hd; obtain ⟨hcq, hfq⟩ := bcell hEq; have hCq := Lib.hid (Cel.ext HW.out hEq); clear hEq hd; (try simp only [Act.put, SP.pick, SP.is, SP.box, id_eq, List.take_succ_cons, List.take_zero, List.drop_succ_cons, List.drop_zero, List.setIfInBounds_toArray, List.set_cons_zero, List.set_cons_succ]); refine growOp_go ?_; go_simp; refine (sDst _ _ _ _ _ _ P _ _ HN.out hCq.out hl).mono ?_; rintro e w5 ⟨rfl, hb⟩; rw [Y2.out]; first | exact ⟨rfl, hb⟩ | exact ⟨_, rfl, hb, rfl⟩))
                (refine Chain.quiet (V := .bool false) ?_ ?_; · (intro vs wq hEq hd; obtain ⟨hcq, hfq⟩ := bcell hEq; clear hEq hd; (try simp only [Act.put, SP.pick, SP.is, SP.box, id_eq, List.take_succ_cons, List.take_zero, List.drop_succ_cons, List.drop_zero, List.setIfInBounds_toArray, List.set_cons_zero, List.set_cons_succ]); refine growOp_go ?_; go_simp; first | exact Ext.refl _ | exact ⟨Ext.refl _, rfl⟩ | (refine ⟨Ext.refl _, ?_⟩; first | omega | (simp; omega) | (simp; done))))
                iterate 5 (apply Chain.quiet; · (intro vs wq hEq hd; obtain ⟨hcq, hfq⟩ := bcell hEq; clear hEq hd; (try simp only [Act.put, SP.pick, SP.is, SP.box, id_eq, List.take_succ_cons, List.take_zero, List.drop_succ_cons, List.drop_zero, List.setIfInBounds_toArray, List.set_cons_zero, List.set_cons_succ]); refine growOp_go ?_; go_simp; first | exact ⟨Ext.refl _, rfl⟩ | exact rfl | (split; (exfalso; omega); (first | exact ⟨Ext.refl _, rfl⟩ | exact rfl)) | (split; (first | exact ⟨Ext.refl _, rfl⟩ | exact rfl); (exfalso; omega))))
                (apply Chain.quiet; · (intro vs wq hEq hd; obtain ⟨hcq, hfq⟩ := bcell hEq; have hCq := Lib.hid (Cel.ext HW.out hEq); clear hEq hd; (try simp only [Act.put, SP.pick, SP.is, SP.box, id_eq, List.take_succ_cons, List.take_zero, List.drop_succ_cons, List.drop_zero, List.setIfInBounds_toArray, List.set_cons_zero, List.set_cons_succ]); refine growOp_go ?_; go_simp; refine (sDst _ _ _ _ _ _ P _ _ HN.out hCq.out hl).mono ?_; rintro e w5 ⟨rfl, hb⟩; rw [Y1.out]; first | exact ⟨rfl, hb⟩ | exact ⟨_, rfl, hb, rfl⟩))
                iterate 3 (apply Chain.quiet; · (intro vs wq hEq hd; obtain ⟨hcq, hfq⟩ := bcell hEq; clear hEq hd; (try simp only [Act.put, SP.pick, SP.is, SP.box, id_eq, List.take_succ_cons, List.take_zero, List.drop_succ_cons, List.drop_zero, List.setIfInBounds_toArray, List.set_cons_zero, List.set_cons_succ]); refine growOp_go ?_; go_simp; first | exact ⟨Ext.refl _, rfl⟩ | exact rfl | (split; (exfalso; omega); (first | exact ⟨Ext.refl _, rfl⟩ | exact rfl)) | (split; (first | exact ⟨Ext.refl _, rfl⟩ | exact rfl); (exfalso; omega))))
                (apply Chain.quiet; · (intro vs wq hEq hd; obtain ⟨hcq, hfq⟩ := bcell hEq; have hCq := Lib.hid (Cel.ext HW.out hEq); clear hEq hd; (try simp only [Act.put, SP.pick, SP.is, SP.box, id_eq, List.take_succ_cons, List.take_zero, List.drop_succ_cons, List.drop_zero, List.setIfInBounds_toArray, List.set_cons_zero, List.set_cons_succ]); refine growOp_go ?_; go_simp; refine (sDst _ _ _ _ _ _ P _ _ HN.out hCq.out hl).mono ?_; rintro e w5 ⟨rfl, hb⟩; rw [Y2.out]; first | exact ⟨rfl, hb⟩ | exact ⟨_, rfl, hb, rfl⟩))
                (refine Chain.quiet (V := .bool true) ?_ ?_; · (intro vs wq hEq hd; obtain ⟨hcq, hfq⟩ := bcell hEq; clear hEq hd; (try simp only [Act.put, SP.pick, SP.is, SP.box, id_eq, List.take_succ_cons, List.take_zero, List.drop_succ_cons, List.drop_zero, List.setIfInBounds_toArray, List.set_cons_zero, List.set_cons_succ]); refine growOp_go ?_; go_simp; first | exact Ext.refl _ | exact ⟨Ext.refl _, rfl⟩ | (refine ⟨Ext.refl _, ?_⟩; first | omega | (simp; omega) | (simp; done))))
                iterate 3 (apply Chain.quiet; · (intro vs wq hEq hd; obtain ⟨hcq, hfq⟩ := bcell hEq; clear hEq hd; (try simp only [Act.put, SP.pick, SP.is, SP.box, id_eq, List.take_succ_cons, List.take_zero, List.drop_succ_cons, List.drop_zero, List.setIfInBounds_toArray, List.set_cons_zero, List.set_cons_succ]); refine growOp_go ?_; go_simp; first | exact ⟨Ext.refl _, rfl⟩ | exact rfl | (split; (exfalso; omega); (first | exact ⟨Ext.refl _, rfl⟩ | exact rfl)) | (split; (first | exact ⟨Ext.refl _, rfl⟩ | exact rfl); (exfalso; omega))))
                (refine Chain.quiet (V := .bool false) ?_ ?_; · (intro vs wq hEq hd; obtain ⟨hcq, hfq⟩ := bcell hEq; clear hEq hd; (try simp only [Act.put, SP.pick, SP.is, SP.box, id_eq, List.take_succ_cons, List.take_zero, List.drop_succ_cons, List.drop_zero, List.setIfInBounds_toArray, List.set_cons_zero, List.set_cons_succ]); refine growOp_go ?_; go_simp; first | exact Ext.refl _ | exact ⟨Ext.refl _, rfl⟩ | (refine ⟨Ext.refl _, ?_⟩; first | omega | (simp; omega) | (simp; done))))
                iterate 2 (apply Chain.quiet; · (intro vs wq hEq hd; obtain ⟨hcq, hfq⟩ := bcell hEq; clear hEq hd; (try simp only [Act.put, SP.pick, SP.is, SP.box, id_eq, List.take_succ_cons, List.take_zero, List.drop_succ_cons, List.drop_zero, List.setIfInBounds_toArray, List.set_cons_zero, List.set_cons_succ]); refine growOp_go ?_; go_simp; first | exact ⟨Ext.refl _, rfl⟩ | exact rfl | (split; (exfalso; omega); (first | exact ⟨Ext.refl _, rfl⟩ | exact rfl)) | (split; (first | exact ⟨Ext.refl _, rfl⟩ | exact rfl); (exfalso; omega))))
                refine Chain.done ?_
                intro vs w5 hE5 hd5
                simp only [Act.put, SP.pick, SP.is, SP.box, id_eq, List.take_succ_cons, List.take_zero, List.drop_succ_cons, List.drop_zero, List.setIfInBounds_toArray, List.set_cons_zero, List.set_cons_succ]
                clear hd5
                have E5 := Lib.hid (Ext.trans E3.out hE5)
                clear hE5
                go_wp2_with fail
                go_roundw
                case rel => exact ⟨k + 1, by omega, by rw [hb.out], by go_num, hNI2, E5⟩
                case measure => simp [intOf]; omega
            · have hb := Lib.hid (hno.out (fun h => by rcases h.2 with h | h | h; exact c1 h; exact c2 h; exact c3 h.1))
              go_wp2_with fail
              refine wp_region_chain 29 (by kernel_rfl) (by kernel_rfl) ?_
              simp only [List.take_succ_cons, List.take_zero, List.drop_succ_cons, List.drop_zero]
              (apply Chain.quiet; · (intro vs wq hEq hd; obtain ⟨hcq, hfq⟩ := bcell hEq; clear hEq hd; (try simp only [Act.put, SP.pick, SP.is, SP.box, id_eq, List.take_succ_cons, List.take_zero, List.drop_succ_cons, List.drop_zero, List.setIfInBounds_toArray, List.set_cons_zero, List.set_cons_succ]); refine growOp_go ?_; go_simp; first | exact ⟨Ext.refl _, rfl⟩ | exact rfl | (split; (exfalso; omega); (first | exact ⟨Ext.refl _, rfl⟩ | exact rfl)) | (split; (first | exact ⟨Ext.refl _, rfl⟩ | exact rfl); (exfalso; omega))))
              (refine Chain.quiet (V := .bool false) ?_ ?_; · (intro vs wq hEq hd; obtain ⟨hcq, hfq⟩ := bcell hEq; clear hEq hd; (try simp only [Act.put, SP.pick, SP.is, SP.box, id_eq, List.take_succ_cons, List.take_zero, List.drop_succ_cons, List.drop_zero, List.setIfInBounds_toArray, List.set_cons_zero, List.set_cons_succ]); refine growOp_go ?_; go_simp; first | exact Ext.refl _ | exact ⟨Ext.refl _, rfl⟩ | (refine ⟨Ext.refl _, ?_⟩; first | omega | (simp; omega) | (simp; done))))
              iterate 4 (apply Chain.quiet; · (intro vs wq hEq hd; obtain ⟨hcq, hfq⟩ := bcell hEq; clear hEq hd; (try simp only [Act.put, SP.pick, SP.is, SP.box, id_eq, List.take_succ_cons, List.take_zero, List.drop_succ_cons, List.drop_zero, List.setIfInBounds_toArray, List.set_cons_zero, List.set_cons_succ]); refine growOp_go ?_; go_simp; first | exact ⟨Ext.refl _, rfl⟩ | exact rfl | (split; (exfalso; omega); (first | exact ⟨Ext.refl _, rfl⟩ | exact rfl)) | (split; (first | exact ⟨Ext.refl _, rfl⟩ | exact rfl); (exfalso; omega))))
              (apply Chain.quiet; · (intro vs wq hEq hd; obtain ⟨hcq, hfq⟩ := bcell hEq; have hCq := Lib.hid (Cel.ext HW.out hEq); clear hEq hd; (try simp only [Act.put, SP.pick, SP.is, SP.box, id_eq, List.take_succ_cons, List.take_zero, List.drop_succ_cons, List.drop_zero, List.setIfInBounds_toArray, List.set_cons_zero, List.set_cons_succ]); refine growOp_go ?_; go_simp; refine (sDst _ _ _ _ _ _ P _ _ HN.out hCq.out hl).mono ?_; rintro e w5 ⟨rfl, hb⟩; rw [Y1.out]; first | exact ⟨rfl, hb⟩ | exact ⟨_, rfl, hb, rfl⟩))
              iterate 3 (apply Chain.quiet; · (intro vs wq hEq hd; obtain ⟨hcq, hfq⟩ := bcell hEq; clear hEq hd; (try simp only [Act.put, SP.pick, SP.is, SP.box, id_eq, List.take_succ_cons, List.take_zero, List.drop_succ_cons, List.drop_zero, List.setIfInBounds_toArray, List.set_cons_zero, List.set_cons_succ]); refine growOp_go ?_; go_simp; first | exact ⟨Ext.refl _, rfl⟩ | exact rfl | (split; (exfalso; omega); (first | exact ⟨Ext.refl _, rfl⟩ | exact rfl)) | (split; (first | exact ⟨Ext.refl _, rfl⟩ | exact rfl); (exfalso; omega))))
              (apply Chain.quiet; · (intro vs wq hEq hd; obtain ⟨hcq, hfq⟩ := bcell hEq; have hCq := Lib.hid (Cel.ext HW.out hEq); clear hEq hd; (try simp only [Act.put, SP.pick, SP.is, SP.box, id_eq, List.take_succ_cons, List.take_zero, List.drop_succ_cons, List.drop_zero, List.setIfInBounds_toArray, List.set_cons_zero, List.set_cons_succ]); refine growOp_go ?_; go_simp; refine (sDst _ _ _ _ _ _ P _ _ HN.out hCq.out hl).mono ?_; rintro e w5 ⟨rfl, hb⟩; rw [Y2.out]; first | exact ⟨rfl, hb⟩ | exact ⟨_, rfl, hb, rfl⟩))
              (refine Chain.quiet (V := .bool false) ?_ ?_; · (intro vs wq hEq hd; obtain ⟨hcq, hfq⟩ := bcell hEq; clear hEq hd; (try simp only [Act.put, SP.pick, SP.is, SP.box, id_eq, List.take_succ_cons, List.take_zero, List.drop_succ_cons, List.drop_zero, List.setIfInBounds_toArray, List.set_cons_zero, List.set_cons_succ]); refine growOp_go ?_; go_simp; first | exact Ext.refl _ | exact ⟨Ext.refl _, rfl⟩ | (refine ⟨Ext.refl _, ?_⟩; first | omega | (simp; omega) | (simp; done))))
              iterate 5 (apply Chain.quiet; · (intro vs wq hEq hd; obtain ⟨hcq, hfq⟩ := bcell hEq; clear hEq hd; (try simp only [Act.put, SP.pick, SP.is, SP.box, id_eq, List.take_succ_cons, List.take_zero, List.drop_succ_cons, List.drop_zero, List.setIfInBounds_toArray, List.set_cons_zero, List.set_cons_succ]); refine growOp_go ?_; go_simp; first | exact ⟨Ext.refl _, rfl⟩ | exact rfl | (split; (exfalso; omega); (first | exact ⟨Ext.refl _, rfl⟩ | exact rfl)) | (split; (first | exact ⟨Ext.refl _, rfl⟩ | exact rfl); (exfalso; omega))))
              (apply Chain.quiet; · (intro vs wq hEq hd; obtain ⟨hcq, hfq⟩ := bcell hEq; have hCq := Lib.hid (Cel.ext HW.out hEq); clear hEq hd; (try simp only [Act.put, SP.pick, SP.is, SP.box, id_eq, List.take_succ_cons, List.take_zero, List.drop_succ_cons, List.drop_zero, List.setIfInBounds_toArray, List.set_cons_zero, List.set_cons_succ]); refine growOp_go ?_; go_simp; refine (sDst _ _ _ _ _ _ P _ _ HN.out hCq.out hl).mono ?_; rintro e w5 ⟨rfl, hb⟩; rw [Y1.out]; first | exact ⟨rfl, hb⟩ | exact ⟨_, rfl, hb, rfl⟩))
              iterate 3 (apply Chain.quiet; · (intro vs wq hEq hd; obtain ⟨hcq, hfq⟩ := bcell hEq; clear hEq hd; (try simp only [Act.put, SP.pick, SP.is, SP.box, id_eq, List.take_succ_cons, List.take_zero, List.drop_succ_cons, List.drop_zero, List.setIfInBounds_toArray, List.set_cons_zero, List.set_cons_succ]); refine growOp_go ?_; go_simp; first | exact ⟨Ext.refl _, rfl⟩ | exact rfl | (split; (exfalso; omega); (first | exact ⟨Ext.refl _, rfl⟩ | exact rfl)) | (split; (first | exact ⟨Ext.refl _, rfl⟩ | exact rfl); (exfalso; omega))))
              (apply Chain.quiet; · (intro vs wq hEq hd; obtain ⟨hcq, hfq⟩ := bcell hEq; have hCq := Lib.hid (Cel.ext HW.out hEq); clear hEq hd; (try simp only [Act.put, SP.pick, SP.is, SP.box, id_eq, List.take_succ_cons, List.take_zero, List.drop_succ_cons, List.drop_zero, List.setIfInBounds_toArray, List.set_cons_zero, List.set_cons_succ]); refine growOp_go ?_; go_simp; refine (sDst _ _ _ _ _ _ P _ _ HN.out hCq.out hl).mono ?_; rintro e w5 ⟨rfl, hb⟩; rw [Y2.out]; first | exact ⟨rfl, hb⟩ | exact ⟨_, rfl, hb, rfl⟩))
              (refine Chain.quiet (V := .bool false) ?_ ?_; · (intro vs wq hEq hd; obtain ⟨hcq, hfq⟩ := bcell hEq; clear hEq hd; (try simp only [Act.put, SP.pick, SP.is, SP.box, id_eq, List.take_succ_cons, List.take_zero, List.drop_succ_cons, List.drop_zero, List.setIfInBounds_toArray, List.set_cons_zero, List.set_cons_succ]); refine growOp_go ?_; go_simp; first | exact Ext.refl _ | exact ⟨Ext.refl _, rfl⟩ | (refine ⟨Ext.refl _, ?_⟩; first | omega | (simp; omega) | (simp; done))))
              iterate 6 (apply Chain.quiet; · (intro vs wq hEq hd; obtain ⟨hcq, hfq⟩ := bcell hEq; clear hEq hd; (try simp only [Act.put, SP.pick, SP.is, SP.box, id_eq, List.take_succ_cons, List.take_zero, List.drop_succ_cons, List.drop_zero, List.setIfInBounds_toArray, List.set_cons_zero, List.set_cons_succ]); refine growOp_go ?_; go_simp; first | exact ⟨Ext.refl _, rfl⟩ | exact rfl | (split; (exfalso; omega); (first | exact ⟨Ext.refl _, rfl⟩ | exact rfl)) | (split; (first | exact ⟨Ext.refl _, rfl⟩ | exact rfl); (exfalso; omega))))
              refine Chain.done ?_
              intro vs w5 hE5 hd5
              simp only [Act.put, SP.pick, SP.is, SP.box, id_eq, List.take_succ_cons, List.take_zero, List.drop_succ_cons, List.drop_zero, List.setIfInBounds_toArray, List.set_cons_zero, List.set_cons_succ]
              clear hd5
              have E5 := Lib.hid (Ext.trans E3.out hE5)
              clear hE5
              go_wp2_with fail
              go_roundw
              case rel => exact ⟨k + 1, by omega, by rw [hb.out], by go_num, hNI2, E5⟩
              case measure => simp [intOf]; omega
      · have hkn : k = ns := by omega
        have hlt' : ¬ (k : Int) < (ns : Int) := by omega
        obtain ⟨b, hbe⟩ : ∃ b, bst D S L k = b := ⟨_, rfl⟩
        have hrf := rf_eq (rg := rg) (b := b) HD.out HS.out HP.out (by have h := hNI.out; rw [hkn, ← HM.out, List.take_length] at h; exact h) (by rw [hkn, ← HM.out] at hbe; exact hbe)
        rw [HV.out] at hrf
        rw [hbe]
        have HRF := Lib.hid hrf
        obtain ⟨xb, hxb⟩ : ∃ x, D b = x := ⟨_, rfl⟩
        have Y2 := Lib.hid (show dstV P b r = xb from (hDs.out b).trans hxb)
        have HXB := Lib.hid hxb
        obtain ⟨x2b, hx2⟩ : ∃ x, IntKind.i64.wrap (2 * xb) = x := ⟨_, rfl⟩
        have HX2 := Lib.hid (show wrap64 (2 * D b) = x2b by rw [hxb, ← hx2]; simp [wrap64, IntKind.wrap_i64])
        have E2 := Lib.hid (Ext.trans E1.out hE.out)
        have b3 := Lib.hid (ext_blk hE.out b2.out)
        have HC2 := Lib.hid HW.out
        have HL2 := Lib.hid (HL1.out.ext hE.out)
        clear hkn hbe hrf hxb hNI E1 HC1 HL1 b2 HW hE p0 p1 p2 x2 x3
        obtain ⟨wE, hwE⟩ : ∃ x : World, x = wr := ⟨_, rfl⟩
        subst hwE
        go_wp2_with fail
        go_loopw [10] (fun i wr => ∃ k : Nat, k ≤ ns ∧ i = .int .i64 k ∧ Hid (∀ s ∈ L.take k, ¬ (0 ≤ b ∧ s ≠ b ∧ S s = true ∧ D s < x2b)) ∧ Hid (Ext wE wr)) (fun i _ => ns - (intOf i).toNat)
        case atStart => exact ⟨0, Nat.zero_le _, rfl, Lib.hid (by simp), Lib.hid (Ext.refl _)⟩
        case round =>
          obtain ⟨k, hk, rfl, hAF, hE⟩ := hrel
          obtain ⟨x1, x2, x3⟩ := blk_cells (ext_blk hE.out b3.out)
          have p0 := x1 0
          have p1 := x1 1
          have p2 := x1 2
          simp at p0 p1 p2
          clear x1
          have HW := Lib.hid (HC2.out.ext hE.out)
          by_cases hlt : k < ns
          · have hkl : k < L.length := by rw [HM.out]; exact hlt
            obtain ⟨bs, os, rfl, h5, h6⟩ := (HL2.out.ext hE.out).map_at (List.ne_nil_of_length_pos (by omega))
            have hck := h6 k hkl
            have hlt' : (k : Int) < (ns : Int) := by omega
            have hk0 : (0 : Int) ≤ (k : Int) := by omega
            have hat := Lib.hid (all_take hkl hAF.out)
            have hmem := Lib.hid (List.getElem_mem hkl)
            generalize L[k] = s at *
            clear h6
            obtain ⟨xs, hxs⟩ : ∃ x, D s = x := ⟨_, rfl⟩
            have Y1 := Lib.hid (show dstV P s r = xs from (hDs.out s).trans hxs)
            have HXS := Lib.hid hxs
            clear hxs
            by_cases c1 : b < 0
            · have hn2 := Lib.hid (hat.out (fun h => by omega))
              go_wp2_with fail
              refine wp_region_chain 25 (by kernel_rfl) (by kernel_rfl) ?_
              simp only [List.take_succ_cons, List.take_zero, List.drop_succ_cons, List.drop_zero]
              (apply Chain.quiet; · (intro vs wq hEq hd; obtain ⟨hcq, hfq⟩ := bcell hEq; clear hEq hd; (try simp only [Act.put, SP.pick, SP.is, SP.box, id_eq, List.take_succ_cons, List.take_zero, List.drop_succ_cons, List.drop_zero, List.setIfInBounds_toArray, List.set_cons_zero, List.set_cons_succ]); refine growOp_go ?_; go_simp; first | exact ⟨Ext.refl _, rfl⟩ | exact rfl | (split; (exfalso; omega); (first | exact ⟨Ext.refl _, rfl⟩ | exact rfl)) | (split; (first | exact ⟨Ext.refl _, rfl⟩ | exact rfl); (exfalso; omega))))
              (refine Chain.quiet (V := .bool false) ?_ ?_; · (intro vs wq hEq hd; obtain ⟨hcq, hfq⟩ := bcell hEq; clear hEq hd; (try simp only [Act.put, SP.pick, SP.is, SP.box, id_eq, List.take_succ_cons, List.take_zero, List.drop_succ_cons, List.drop_zero, List.setIfInBounds_toArray, List.set_cons_zero, List.set_cons_succ]); refine growOp_go ?_; go_simp; first | exact Ext.refl _ | exact ⟨Ext.refl _, rfl⟩ | (refine ⟨Ext.refl _, ?_⟩; first | omega | (simp; omega) | (simp; done))))
              iterate 23 (apply Chain.quiet; · (intro vs wq hEq hd; obtain ⟨hcq, hfq⟩ := bcell hEq; clear hEq hd; (try simp only [Act.put, SP.pick, SP.is, SP.box, id_eq, List.take_succ_cons, List.take_zero, List.drop_succ_cons, List.drop_zero, List.setIfInBounds_toArray, List.set_cons_zero, List.set_cons_succ]); refine growOp_go ?_; go_simp; first | exact ⟨Ext.refl _, rfl⟩ | exact rfl | (split; (exfalso; omega); (first | exact ⟨Ext.refl _, rfl⟩ | exact rfl)) | (split; (first | exact ⟨Ext.refl _, rfl⟩ | exact rfl); (exfalso; omega))))
              refine Chain.done ?_
              intro vs w5 hE5 hd5
              simp only [Act.put, SP.pick, SP.is, SP.box, id_eq, List.take_succ_cons, List.take_zero, List.drop_succ_cons, List.drop_zero, List.setIfInBounds_toArray, List.set_cons_zero, List.set_cons_succ]
              clear hd5
              have E5 := Lib.hid (Ext.trans hE.out hE5)
              clear hE5
              go_wp2_with fail
              go_roundw
              case rel => exact ⟨k + 1, by omega, by go_num, hn2, E5⟩
              case measure => simp [intOf]; omega
            have c1' : 0 ≤ b := by omega
            by_cases c2 : s = b
            · have hn2 := Lib.hid (hat.out (fun h => h.2.1 c2))
              go_wp2_with fail
              refine wp_region_chain 25 (by kernel_rfl) (by kernel_rfl) ?_
              simp only [List.take_succ_cons, List.take_zero, List.drop_succ_cons, List.drop_zero]
              (apply Chain.quiet; · (intro vs wq hEq hd; obtain ⟨hcq, hfq⟩ := bcell hEq; clear hEq hd; (try simp only [Act.put, SP.pick, SP.is, SP.box, id_eq, List.take_succ_cons, List.take_zero, List.drop_succ_cons, List.drop_zero, List.setIfInBounds_toArray, List.set_cons_zero, List.set_cons_succ]); refine growOp_go ?_; go_simp; first | exact ⟨Ext.refl _, rfl⟩ | exact rfl | (split; (exfalso; omega); (first | exact ⟨Ext.refl _, rfl⟩ | exact rfl)) | (split; (first | exact ⟨Ext.refl _, rfl⟩ | exact rfl); (exfalso; omega))))
              (refine Chain.quiet (V := .bool true) ?_ ?_; · (intro vs wq hEq hd; obtain ⟨hcq, hfq⟩ := bcell hEq; clear hEq hd; (try simp only [Act.put, SP.pick, SP.is, SP.box, id_eq, List.take_succ_cons, List.take_zero, List.drop_succ_cons, List.drop_zero, List.setIfInBounds_toArray, List.set_cons_zero, List.set_cons_succ]); refine growOp_go ?_; go_simp; first | exact Ext.refl _ | exact ⟨Ext.refl _, rfl⟩ | (refine ⟨Ext.refl _, ?_⟩; first | omega | (simp; omega) | (simp; done))))
              iterate 3 (apply Chain.quiet; · (intro vs wq hEq hd; obtain ⟨hcq, hfq⟩ := bcell hEq; clear hEq hd; (try simp only [Act.put, SP.pick, SP.is, SP.box, id_eq, List.take_succ_cons, List.take_zero, List.drop_succ_cons, List.drop_zero, List.setIfInBounds_toArray, List.set_cons_zero, List.set_cons_succ]); refine growOp_go ?_; go_simp; first | exact ⟨Ext.refl _, rfl⟩ | exact rfl | (split; (exfalso; omega); (first | exact ⟨Ext.refl _, rfl⟩ | exact rfl)) | (split; (first | exact ⟨Ext.refl _, rfl⟩ | exact rfl); (exfalso; omega))))
              (refine Chain.quiet (V := .bool false) ?_ ?_; · (intro vs wq hEq hd; obtain ⟨hcq, hfq⟩ := bcell hEq; clear hEq hd; (try simp only [Act.put, SP.pick, SP.is, SP.box, id_eq, List.take_succ_cons, List.take_zero, List.drop_succ_cons, List.drop_zero, List.setIfInBounds_toArray, List.set_cons_zero, List.set_cons_succ]); refine growOp_go ?_; go_simp; first | exact Ext.refl _ | exact ⟨Ext.refl _, rfl⟩ | (refine ⟨Ext.refl _, ?_⟩; first | omega | (simp; omega) | (simp; done))))
              iterate 19 (apply Chain.quiet; · (intro vs wq hEq hd; obtain ⟨hcq, hfq⟩ := bcell hEq; clear hEq hd; (try simp only [Act.put, SP.pick, SP.is, SP.box, id_eq, List.take_succ_cons, List.take_zero, List.drop_succ_cons, List.drop_zero, List.setIfInBounds_toArray, List.set_cons_zero, List.set_cons_succ]); refine growOp_go ?_; go_simp; first | exact ⟨Ext.refl _, rfl⟩ | exact rfl | (split; (exfalso; omega); (first | exact ⟨Ext.refl _, rfl⟩ | exact rfl)) | (split; (first | exact ⟨Ext.refl _, rfl⟩ | exact rfl); (exfalso; omega))))
              refine Chain.done ?_
              intro vs w5 hE5 hd5
              simp only [Act.put, SP.pick, SP.is, SP.box, id_eq, List.take_succ_cons, List.take_zero, List.drop_succ_cons, List.drop_zero, List.setIfInBounds_toArray, List.set_cons_zero, List.set_cons_succ]
              clear hd5
              have E5 := Lib.hid (Ext.trans hE.out hE5)
              clear hE5
              go_wp2_with fail
              go_roundw
              case rel => exact ⟨k + 1, by omega, by go_num, hn2, E5⟩
              case measure => simp [intOf]; omega
            cases hs : S s with
            | false =>
              have hn2 := Lib.hid (hat.out (fun h => by rw [hs] at h; cases h.2.2.1))
              have Y3 := Lib.hid (show crB P sn s r = false from (hSs.out s).trans hs)
              clear hs
              go_wp2_with fail
              refine wp_region_chain 25 (by kernel_rfl) (by kernel_rfl) ?_
              simp only [List.take_succ_cons, List.take_zero, List.drop_succ_cons, List.drop_zero]
              (apply Chain.quiet; · (intro vs wq hEq hd; obtain ⟨hcq, hfq⟩ := bcell hEq; clear hEq hd; (try simp only [Act.put, SP.pick, SP.is, SP.box, id_eq, List.take_succ_cons, List.take_zero, List.drop_succ_cons, List.drop_zero, List.setIfInBounds_toArray, List.set_cons_zero, List.set_cons_succ]); refine growOp_go ?_; go_simp; first | exact ⟨Ext.refl _, rfl⟩ | exact rfl | (split; (exfalso; omega); (first | exact ⟨Ext.refl _, rfl⟩ | exact rfl)) | (split; (first | exact ⟨Ext.refl _, rfl⟩ | exact rfl); (exfalso; omega))))
              (refine Chain.quiet (V := .bool true) ?_ ?_; · (intro vs wq hEq hd; obtain ⟨hcq, hfq⟩ := bcell hEq; clear hEq hd; (try simp only [Act.put, SP.pick, SP.is, SP.box, id_eq, List.take_succ_cons, List.take_zero, List.drop_succ_cons, List.drop_zero, List.setIfInBounds_toArray, List.set_cons_zero, List.set_cons_succ]); refine growOp_go ?_; go_simp; first | exact Ext.refl _ | exact ⟨Ext.refl _, rfl⟩ | (refine ⟨Ext.refl _, ?_⟩; first | omega | (simp; omega) | (simp; done))))
              iterate 3 (apply Chain.quiet; · (intro vs wq hEq hd; obtain ⟨hcq, hfq⟩ := bcell hEq; clear hEq hd; (try simp only [Act.put, SP.pick, SP.is, SP.box, id_eq, List.take_succ_cons, List.take_zero, List.drop_succ_cons, List.drop_zero, List.setIfInBounds_toArray, List.set_cons_zero, List.set_cons_succ]); refine growOp_go ?_; go_simp; first | exact ⟨Ext.refl _, rfl⟩ | exact rfl | (split; (exfalso; omega); (first | exact ⟨Ext.refl _, rfl⟩ | exact rfl)) | (split; (first | exact ⟨Ext.refl _, rfl⟩ | exact rfl); (exfalso; omega))))
              (refine Chain.quiet (V := .bool true) ?_ ?_; · (intro vs wq hEq hd; obtain ⟨hcq, hfq⟩ := bcell hEq; clear hEq hd; (try simp only [Act.put, SP.pick, SP.is, SP.box, id_eq, List.take_succ_cons, List.take_zero, List.drop_succ_cons, List.drop_zero, List.setIfInBounds_toArray, List.set_cons_zero, List.set_cons_succ]); refine growOp_go ?_; go_simp; first | exact Ext.refl _ | exact ⟨Ext.refl _, rfl⟩ | (refine ⟨Ext.refl _, ?_⟩; first | omega | (simp; omega) | (simp; done))))
              iterate 5 (apply Chain.quiet; · (intro vs wq hEq hd; obtain ⟨hcq, hfq⟩ := bcell hEq; clear hEq hd; (try simp only [Act.put, SP.pick, SP.is, SP.box, id_eq, List.take_succ_cons, List.take_zero, List.drop_succ_cons, List.drop_zero, List.setIfInBounds_toArray, List.set_cons_zero, List.set_cons_succ]); refine growOp_go ?_; go_simp; first | exact ⟨Ext.refl _, rfl⟩ | exact rfl | (split; (exfalso; omega); (first | exact ⟨Ext.refl _, rfl⟩ | exact rfl)) | (split; (first | exact ⟨Ext.refl _, rfl⟩ | exact rfl); (exfalso; omega))))
              (apply Chain.quiet; · (intro vs wq hEq hd; obtain ⟨hcq, hfq⟩ := bcell hEq; have hCq := Lib.hid (Cel.ext HW.out hEq); clear hEq hd; (try simp only [Act.put, SP.pick, SP.is, SP.box, id_eq, List.take_succ_cons, List.take_zero, List.drop_succ_cons, List.drop_zero, List.setIfInBounds_toArray, List.set_cons_zero, List.set_cons_succ]); refine growOp_go ?_; go_simp; refine (sCs _ _ _ _ _ _ P _ _ HN.out hCq.out hl).mono ?_; rintro e w5 ⟨rfl, hb⟩; rw [Y3.out]; first | exact ⟨rfl, hb⟩ | exact ⟨_, rfl, hb, rfl⟩))
              iterate 13 (apply Chain.quiet; · (intro vs wq hEq hd; obtain ⟨hcq, hfq⟩ := bcell hEq; clear hEq hd; (try simp only [Act.put, SP.pick, SP.is, SP.box, id_eq, List.take_succ_cons, List.take_zero, List.drop_succ_cons, List.drop_zero, List.setIfInBounds_toArray, List.set_cons_zero, List.set_cons_succ]); refine growOp_go ?_; go_simp; first | exact ⟨Ext.refl _, rfl⟩ | exact rfl | (split; (exfalso; omega); (first | exact ⟨Ext.refl _, rfl⟩ | exact rfl)) | (split; (first | exact ⟨Ext.refl _, rfl⟩ | exact rfl); (exfalso; omega))))
              refine Chain.done ?_
              intro vs w5 hE5 hd5
              simp only [Act.put, SP.pick, SP.is, SP.box, id_eq, List.take_succ_cons, List.take_zero, List.drop_succ_cons, List.drop_zero, List.setIfInBounds_toArray, List.set_cons_zero, List.set_cons_succ]
              clear hd5
              have E5 := Lib.hid (Ext.trans hE.out hE5)
              clear hE5
              go_wp2_with fail
              go_roundw
              case rel => exact ⟨k + 1, by omega, by go_num, hn2, E5⟩
              case measure => simp [intOf]; omega
            | true =>
              have Y3 := Lib.hid (show crB P sn s r = true from (hSs.out s).trans hs)
              have HS1 := Lib.hid hs
              clear hs
              by_cases c3 : xs < x2b
              · have HV2 := Lib.hid (show V = -1 by rw [HRF.out, if_pos (.inr (.inr (cap_yes hmem.out c2 HS1.out (by rw [HXS.out, HX2.out]; exact c3))))])
                go_wp2_with fail
                refine wp_region_chain 25 (by kernel_rfl) (by kernel_rfl) ?_
                simp only [List.take_succ_cons, List.take_zero, List.drop_succ_cons, List.drop_zero]
                (apply Chain.quiet; · (intro vs wq hEq hd; obtain ⟨hcq, hfq⟩ := bcell hEq; clear hEq hd; (try simp only [Act.put, SP.pick, SP.is, SP.box, id_eq, List.take_succ_cons, List.take_zero, List.drop_succ_cons, List.drop_zero, List.setIfInBounds_toArray, List.set_cons_zero, List.set_cons_succ]); refine growOp_go ?_; go_simp; first | exact ⟨Ext.refl _, rfl⟩ | exact rfl | (split; (exfalso; omega); (first | exact ⟨Ext.refl _, rfl⟩ | exact rfl)) | (split; (first | exact ⟨Ext.refl _, rfl⟩ | exact rfl); (exfalso; omega))))
                (refine Chain.quiet (V := .bool true) ?_ ?_; · (intro vs wq hEq hd; obtain ⟨hcq, hfq⟩ := bcell hEq; clear hEq hd; (try simp only [Act.put, SP.pick, SP.is, SP.box, id_eq, List.take_succ_cons, List.take_zero, List.drop_succ_cons, List.drop_zero, List.setIfInBounds_toArray, List.set_cons_zero, List.set_cons_succ]); refine growOp_go ?_; go_simp; first | exact Ext.refl _ | exact ⟨Ext.refl _, rfl⟩ | (refine ⟨Ext.refl _, ?_⟩; first | omega | (simp; omega) | (simp; done))))
                iterate 3 (apply Chain.quiet; · (intro vs wq hEq hd; obtain ⟨hcq, hfq⟩ := bcell hEq; clear hEq hd; (try simp only [Act.put, SP.pick, SP.is, SP.box, id_eq, List.take_succ_cons, List.take_zero, List.drop_succ_cons, List.drop_zero, List.setIfInBounds_toArray, List.set_cons_zero, List.set_cons_succ]); refine growOp_go ?_; go_simp; first | exact ⟨Ext.refl _, rfl⟩ | exact rfl | (split; (exfalso; omega); (first | exact ⟨Ext.refl _, rfl⟩ | exact rfl)) | (split; (first | exact ⟨Ext.refl _, rfl⟩ | exact rfl); (exfalso; omega))))
                (refine Chain.quiet (V := .bool true) ?_ ?_; · (intro vs wq hEq hd; obtain ⟨hcq, hfq⟩ := bcell hEq; clear hEq hd; (try simp only [Act.put, SP.pick, SP.is, SP.box, id_eq, List.take_succ_cons, List.take_zero, List.drop_succ_cons, List.drop_zero, List.setIfInBounds_toArray, List.set_cons_zero, List.set_cons_succ]); refine growOp_go ?_; go_simp; first | exact Ext.refl _ | exact ⟨Ext.refl _, rfl⟩ | (refine ⟨Ext.refl _, ?_⟩; first | omega | (simp; omega) | (simp; done))))
                iterate 5 (apply Chain.quiet; · (intro vs wq hEq hd; obtain ⟨hcq, hfq⟩ := bcell hEq; clear hEq hd; (try simp only [Act.put, SP.pick, SP.is, SP.box, id_eq, List.take_succ_cons, List.take_zero, List.drop_succ_cons, List.drop_zero, List.setIfInBounds_toArray, List.set_cons_zero, List.set_cons_succ]); refine growOp_go ?_; go_simp; first | exact ⟨Ext.refl _, rfl⟩ | exact rfl | (split; (exfalso; omega); (first | exact ⟨Ext.refl _, rfl⟩ | exact rfl)) | (split; (first | exact ⟨Ext.refl _, rfl⟩ | exact rfl); (exfalso; omega))))
                (apply Chain.quiet; · (intro vs wq hEq hd; obtain ⟨hcq, hfq⟩ := bcell hEq; have hCq := Lib.hid (Cel.ext HW.out hEq); clear hEq hd; (try simp only [Act.put, SP.pick, SP.is, SP.box, id_eq, List.take_succ_cons, List.take_zero, List.drop_succ_cons, List.drop_zero, List.setIfInBounds_toArray, List.set_cons_zero, List.set_cons_succ]); refine growOp_go ?_; go_simp; refine (sCs _ _ _ _ _ _ P _ _ HN.out hCq.out hl).mono ?_; rintro e w5 ⟨rfl, hb⟩; rw [Y3.out]; first | exact ⟨rfl, hb⟩ | exact ⟨_, rfl, hb, rfl⟩))
                iterate 5 (apply Chain.quiet; · (intro vs wq hEq hd; obtain ⟨hcq, hfq⟩ := bcell hEq; clear hEq hd; (try simp only [Act.put, SP.pick, SP.is, SP.box, id_eq, List.take_succ_cons, List.take_zero, List.drop_succ_cons, List.drop_zero, List.setIfInBounds_toArray, List.set_cons_zero, List.set_cons_succ]); refine growOp_go ?_; go_simp; first | exact ⟨Ext.refl _, rfl⟩ | exact rfl | (split; (exfalso; omega); (first | exact ⟨Ext.refl _, rfl⟩ | exact rfl)) | (split; (first | exact ⟨Ext.refl _, rfl⟩ | exact rfl); (exfalso; omega))))
                (apply Chain.quiet; · (intro vs wq hEq hd; obtain ⟨hcq, hfq⟩ := bcell hEq; have hCq := Lib.hid (Cel.ext HW.out hEq); clear hEq hd; (try simp only [Act.put, SP.pick, SP.is, SP.box, id_eq, List.take_succ_cons, List.take_zero, List.drop_succ_cons, List.drop_zero, List.setIfInBounds_toArray, List.set_cons_zero, List.set_cons_succ]); refine growOp_go ?_; go_simp; refine (sDst _ _ _ _ _ _ P _ _ HN.out hCq.out hl).mono ?_; rintro e w5 ⟨rfl, hb⟩; rw [Y1.out]; first | exact ⟨rfl, hb⟩ | exact ⟨_, rfl, hb, rfl⟩))
                iterate 3 (apply Chain.quiet; · (intro vs wq hEq hd; obtain ⟨hcq, hfq⟩ := bcell hEq; clear hEq hd; (try simp only [Act.put, SP.pick, SP.is, SP.box, id_eq, List.take_succ_cons, List.take_zero, List.drop_succ_cons, List.drop_zero, List.setIfInBounds_toArray, List.set_cons_zero, List.set_cons_succ]); refine growOp_go ?_; go_simp; first | exact ⟨Ext.refl _, rfl⟩ | exact rfl | (split; (exfalso; omega); (first | exact ⟨Ext.refl _, rfl⟩ | exact rfl)) | (split; (first | exact ⟨Ext.refl _, rfl⟩ | exact rfl); (exfalso; omega))))
                (apply Chain.quiet; · (intro vs wq hEq hd; obtain ⟨hcq, hfq⟩ := bcell hEq; have hCq := Lib.hid (Cel.ext HW.out hEq); clear hEq hd; (try simp only [Act.put, SP.pick, SP.is, SP.box, id_eq, List.take_succ_cons, List.take_zero, List.drop_succ_cons, List.drop_zero, List.setIfInBounds_toArray, List.set_cons_zero, List.set_cons_succ]); refine growOp_go ?_; go_simp; refine (sDst _ _ _ _ _ _ P _ _ HN.out hCq.out hl).mono ?_; rintro e w5 ⟨rfl, hb⟩; rw [Y2.out]; first | exact ⟨rfl, hb⟩ | exact ⟨_, rfl, hb, rfl⟩))
                iterate 1 (apply Chain.quiet; · (intro vs wq hEq hd; obtain ⟨hcq, hfq⟩ := bcell hEq; clear hEq hd; (try simp only [Act.put, SP.pick, SP.is, SP.box, id_eq, List.take_succ_cons, List.take_zero, List.drop_succ_cons, List.drop_zero, List.setIfInBounds_toArray, List.set_cons_zero, List.set_cons_succ]); refine growOp_go ?_; go_simp; first | exact ⟨Ext.refl _, rfl⟩ | exact rfl | (split; (exfalso; omega); (first | exact ⟨Ext.refl _, rfl⟩ | exact rfl)) | (split; (first | exact ⟨Ext.refl _, rfl⟩ | exact rfl); (exfalso; omega))))
                (refine Chain.quiet (V := .bool true) ?_ ?_; · (intro vs wq hEq hd; obtain ⟨hcq, hfq⟩ := bcell hEq; clear hEq hd; (try simp only [Act.put, SP.pick, SP.is, SP.box, id_eq, List.take_succ_cons, List.take_zero, List.drop_succ_cons, List.drop_zero, List.setIfInBounds_toArray, List.set_cons_zero, List.set_cons_succ]); refine growOp_go ?_; go_simp; first | exact Ext.refl _ | exact ⟨Ext.refl _, rfl⟩ | (refine ⟨Ext.refl _, ?_⟩; first | omega | (simp; omega) | (simp; done))))
                iterate 1 (apply Chain.quiet; · (intro vs wq hEq hd; obtain ⟨hcq, hfq⟩ := bcell hEq; clear hEq hd; (try simp only [Act.put, SP.pick, SP.is, SP.box, id_eq, List.take_succ_cons, List.take_zero, List.drop_succ_cons, List.drop_zero, List.setIfInBounds_toArray, List.set_cons_zero, List.set_cons_succ]); refine growOp_go ?_; go_simp; first | exact ⟨Ext.refl _, rfl⟩ | exact rfl | (split; (exfalso; omega); (first | exact ⟨Ext.refl _, rfl⟩ | exact rfl)) | (split; (first | exact ⟨Ext.refl _, rfl⟩ | exact rfl); (exfalso; omega))))
                refine Chain.done ?_
                intro vs w5 hE5 hd5
                simp only [Act.put, SP.pick, SP.is, SP.box, id_eq, List.take_succ_cons, List.take_zero, List.drop_succ_cons, List.drop_zero, List.setIfInBounds_toArray, List.set_cons_zero, List.set_cons_succ]
                clear hd5
                have E5 := Lib.hid (Ext.trans hE.out hE5)
                clear hE5
                go_wp2_with fail
                go_ret
                exact ⟨by rw [HV2.out]; rfl, Ext.trans E2.out E5.out⟩
              · have hn2 := Lib.hid (hat.out (fun h => c3 (by rw [← HXS.out]; exact h.2.2.2)))
                go_wp2_with fail
                refine wp_region_chain 25 (by kernel_rfl) (by kernel_rfl) ?_
                simp only [List.take_succ_cons, List.take_zero, List.drop_succ_cons, List.drop_zero]
                (apply Chain.quiet; · (intro vs wq hEq hd; obtain ⟨hcq, hfq⟩ := bcell hEq; clear hEq hd; (try simp only [Act.put, SP.pick, SP.is, SP.box, id_eq, List.take_succ_cons, List.take_zero, List.drop_succ_cons, List.drop_zero, List.setIfInBounds_toArray, List.set_cons_zero, List.set_cons_succ]); refine growOp_go ?_; go_simp; first | exact ⟨Ext.refl _, rfl⟩ | exact rfl | (split; (exfalso; omega); (first | exact ⟨Ext.refl _, rfl⟩ | exact rfl)) | (split; (first | exact ⟨Ext.refl _, rfl⟩ | exact rfl); (exfalso; omega))))
                (refine Chain.quiet (V := .bool true) ?_ ?_; · (intro vs wq hEq hd; obtain ⟨hcq, hfq⟩ := bcell hEq; clear hEq hd; (try simp only [Act.put, SP.pick, SP.is, SP.box, id_eq, List.take_succ_cons, List.take_zero, List.drop_succ_cons, List.drop_zero, List.setIfInBounds_toArray, List.set_cons_zero, List.set_cons_succ]); refine growOp_go ?_; go_simp; first | exact Ext.refl _ | exact ⟨Ext.refl _, rfl⟩ | (refine ⟨Ext.refl _, ?_⟩; first | omega | (simp; omega) | (simp; done))))
                iterate 3 (apply Chain.quiet; · (intro vs wq hEq hd; obtain ⟨hcq, hfq⟩ := bcell hEq; clear hEq hd; (try simp only [Act.put, SP.pick, SP.is, SP.box, id_eq, List.take_succ_cons, List.take_zero, List.drop_succ_cons, List.drop_zero, List.setIfInBounds_toArray, List.set_cons_zero, List.set_cons_succ]); refine growOp_go ?_; go_simp; first | exact ⟨Ext.refl _, rfl⟩ | exact rfl | (split; (exfalso; omega); (first | exact ⟨Ext.refl _, rfl⟩ | exact rfl)) | (split; (first | exact ⟨Ext.refl _, rfl⟩ | exact rfl); (exfalso; omega))))
                (refine Chain.quiet (V := .bool true) ?_ ?_; · (intro vs wq hEq hd; obtain ⟨hcq, hfq⟩ := bcell hEq; clear hEq hd; (try simp only [Act.put, SP.pick, SP.is, SP.box, id_eq, List.take_succ_cons, List.take_zero, List.drop_succ_cons, List.drop_zero, List.setIfInBounds_toArray, List.set_cons_zero, List.set_cons_succ]); refine growOp_go ?_; go_simp; first | exact Ext.refl _ | exact ⟨Ext.refl _, rfl⟩ | (refine ⟨Ext.refl _, ?_⟩; first | omega | (simp; omega) | (simp; done))))
                iterate 5 (apply Chain.quiet; · (intro vs wq hEq hd; obtain ⟨hcq, hfq⟩ := bcell hEq; clear hEq hd; (try simp only [Act.put, SP.pick, SP.is, SP.box, id_eq, List.take_succ_cons, List.take_zero, List.drop_succ_cons, List.drop_zero, List.setIfInBounds_toArray, List.set_cons_zero, List.set_cons_succ]); refine growOp_go ?_; go_simp; first | exact ⟨Ext.refl _, rfl⟩ | exact rfl | (split; (exfalso; omega); (first | exact ⟨Ext.refl _, rfl⟩ | exact rfl)) | (split; (first | exact ⟨Ext.refl _, rfl⟩ | exact rfl); (exfalso; omega))))
                (apply Chain.quiet; · (intro vs wq hEq hd; obtain ⟨hcq, hfq⟩ := bcell hEq; have hCq := Lib.hid (Cel.ext HW.out hEq); clear hEq hd; (try simp only [Act.put, SP.pick, SP.is, SP.box, id_eq, List.take_succ_cons, List.take_zero, List.drop_succ_cons, List.drop_zero, List.setIfInBounds_toArray, List.set_cons_zero, List.set_cons_succ]); refine growOp_go ?_; go_simp; refine (sCs _ _ _ _ _ _ P _ _ HN.out hCq.out hl).mono ?_; rintro e w5 ⟨rfl, hb⟩; rw [Y3.out]; first | exact ⟨rfl, hb⟩ | exact ⟨_, rfl, hb, rfl⟩))
                iterate 5 (apply Chain.quiet; · (intro vs wq hEq hd; obtain ⟨hcq, hfq⟩ := bcell hEq; clear hEq hd; (try simp only [Act.put, SP.pick, SP.is, SP.box, id_eq, List.take_succ_cons, List.take_zero, List.drop_succ_cons, List.drop_zero, List.setIfInBounds_toArray, List.set_cons_zero, List.set_cons_succ]); refine growOp_go ?_; go_simp; first | exact ⟨Ext.refl _, rfl⟩ | exact rfl | (split; (exfalso; omega); (first | exact ⟨Ext.refl _, rfl⟩ | exact rfl)) | (split; (first | exact ⟨Ext.refl _, rfl⟩ | exact rfl); (exfalso; omega))))
                (apply Chain.quiet; · (intro vs wq hEq hd; obtain ⟨hcq, hfq⟩ := bcell hEq; have hCq := Lib.hid (Cel.ext HW.out hEq); clear hEq hd; (try simp only [Act.put, SP.pick, SP.is, SP.box, id_eq, List.take_succ_cons, List.take_zero, List.drop_succ_cons, List.drop_zero, List.setIfInBounds_toArray, List.set_cons_zero, List.set_cons_succ]); refine growOp_go ?_; go_simp; refine (sDst _ _ _ _ _ _ P _ _ HN.out hCq.out hl).mono ?_; rintro e w5 ⟨rfl, hb⟩; rw [Y1.out]; first | exact ⟨rfl, hb⟩ | exact ⟨_, rfl, hb, rfl⟩))
                iterate 3 (apply Chain.quiet; · (intro vs wq hEq hd; obtain ⟨hcq, hfq⟩ := bcell hEq; clear hEq hd; (try simp only [Act.put, SP.pick, SP.is, SP.box, id_eq, List.take_succ_cons, List.take_zero, List.drop_succ_cons, List.drop_zero, List.setIfInBounds_toArray, List.set_cons_zero, List.set_cons_succ]); refine growOp_go ?_; go_simp; first | exact ⟨Ext.refl _, rfl⟩ | exact rfl | (split; (exfalso; omega); (first | exact ⟨Ext.refl _, rfl⟩ | exact rfl)) | (split; (first | exact ⟨Ext.refl _, rfl⟩ | exact rfl); (exfalso; omega))))
                (apply Chain.quiet; · (intro vs wq hEq hd; obtain ⟨hcq, hfq⟩ := bcell hEq; have hCq := Lib.hid (Cel.ext HW.out hEq); clear hEq hd; (try simp only [Act.put, SP.pick, SP.is, SP.box, id_eq, List.take_succ_cons, List.take_zero, List.drop_succ_cons, List.drop_zero, List.setIfInBounds_toArray, List.set_cons_zero, List.set_cons_succ]); refine growOp_go ?_; go_simp; refine (sDst _ _ _ _ _ _ P _ _ HN.out hCq.out hl).mono ?_; rintro e w5 ⟨rfl, hb⟩; rw [Y2.out]; first | exact ⟨rfl, hb⟩ | exact ⟨_, rfl, hb, rfl⟩))
                iterate 1 (apply Chain.quiet; · (intro vs wq hEq hd; obtain ⟨hcq, hfq⟩ := bcell hEq; clear hEq hd; (try simp only [Act.put, SP.pick, SP.is, SP.box, id_eq, List.take_succ_cons, List.take_zero, List.drop_succ_cons, List.drop_zero, List.setIfInBounds_toArray, List.set_cons_zero, List.set_cons_succ]); refine growOp_go ?_; go_simp; first | exact ⟨Ext.refl _, rfl⟩ | exact rfl | (split; (exfalso; omega); (first | exact ⟨Ext.refl _, rfl⟩ | exact rfl)) | (split; (first | exact ⟨Ext.refl _, rfl⟩ | exact rfl); (exfalso; omega))))
                (refine Chain.quiet (V := .bool false) ?_ ?_; · (intro vs wq hEq hd; obtain ⟨hcq, hfq⟩ := bcell hEq; clear hEq hd; (try simp only [Act.put, SP.pick, SP.is, SP.box, id_eq, List.take_succ_cons, List.take_zero, List.drop_succ_cons, List.drop_zero, List.setIfInBounds_toArray, List.set_cons_zero, List.set_cons_succ]); refine growOp_go ?_; go_simp; first | exact Ext.refl _ | exact ⟨Ext.refl _, rfl⟩ | (refine ⟨Ext.refl _, ?_⟩; first | omega | (simp; omega) | (simp; done))))
                iterate 1 (apply Chain.quiet; · (intro vs wq hEq hd; obtain ⟨hcq, hfq⟩ := bcell hEq; clear hEq hd; (try simp only [Act.put, SP.pick, SP.is, SP.box, id_eq, List.take_succ_cons, List.take_zero, List.drop_succ_cons, List.drop_zero, List.setIfInBounds_toArray, List.set_cons_zero, List.set_cons_succ]); refine growOp_go ?_; go_simp; first | exact ⟨Ext.refl _, rfl⟩ | exact rfl | (split; (exfalso; omega); (first | exact ⟨Ext.refl _, rfl⟩ | exact rfl)) | (split; (first | exact ⟨Ext.refl _, rfl⟩ | exact rfl); (exfalso; omega))))
                refine Chain.done ?_
                intro vs w5 hE5 hd5
                simp only [Act.put, SP.pick, SP.is, SP.box, id_eq, List.take_succ_cons, List.take_zero, List.drop_succ_cons, List.drop_zero, List.setIfInBounds_toArray, List.set_cons_zero, List.set_cons_succ]
                clear hd5
                have E5 := Lib.hid (Ext.trans hE.out hE5)
                clear hE5
                go_wp2_with fail
                go_roundw
                case rel => exact ⟨k + 1, by omega, by go_num, hn2, E5⟩
                case measure => simp [intOf]; omega
          · have hkn : k = ns := by omega
            have hlt' : ¬ (k : Int) < (ns : Int) := by omega
            have hall : ∀ s ∈ L, ¬ (0 ≤ b ∧ s ≠ b ∧ S s = true ∧ D s < x2b) := by
              have h := hAF.out
              rw [hkn, ← HM.out, List.take_length] at h
              exact h
            clear hkn hAF
            by_cases c1 : b < 0
            · have HV2 := Lib.hid (show V = -1 by rw [HRF.out, if_pos (.inl c1)])
              clear hall
              go_wp2_with fail
              go_ret
              exact ⟨by rw [HV2.out]; rfl, Ext.trans E2.out hE.out⟩
            · have hcap := cap_no (L := L) (D := D) (S := S) (b := b) (fun s hs h => hall s hs ⟨by omega, h.1, h.2.1, by rw [HX2.out] at h; exact h.2.2⟩)
              have HCP := Lib.hid hcap
              clear hall hcap
              go_wp2_with fail
              refine (sCr _ _ _ _ _ _ P _ _ HN.out HW.out hl).mono ?_
              rintro e w9 ⟨rfl, h9⟩
              have E9 := Lib.hid (Ext.trans E2.out (Ext.trans hE.out h9))
              clear h9
              cases hr : crB P rg b r with
              | false =>
                have HV2 := Lib.hid (show V = -1 by rw [HRF.out, if_pos (.inr (.inl hr))])
                go_wp2_with fail
                go_ret
                exact ⟨by rw [HV2.out]; rfl, E9.out⟩
              | true =>
                have HV2 := Lib.hid (show V = b by rw [HRF.out, if_neg (by rw [hr, HCP.out]; simp; omega)])
                go_wp2_with fail
                go_ret
                exact ⟨by rw [HV2.out]; rfl, E9.out⟩
end Go.Proofs.Ytkmklafjcjkpdaa
