/- Who is received: the program's walk. -/
import Derived.Test.YtkmklafjcjkpdaaRcs
namespace Go.Proofs.Ytkmklafjcjkpdaa
open Go.RowKit
set_option linter.unusedVariables false
set_option linter.unusedSimpArgs false
theorem elBool : ElemTy Try.prog 136 4 1 1 := ElemTy.mk_ (z := .bool false) Try.underlying136 (by kernel_rfl) rfl (by decide)
/-- The row of marks. -/
def mkA (S : Int → Bool) (L : List Int) (n k : Nat) : Array Value := ((List.range n).map fun i => Value.bool (mrk S (L.take k) i)).toArray
theorem mkA_zero (S : Int → Bool) (L : List Int) (n : Nat) : (List.replicate n (Value.bool false)).toArray = mkA S L n 0 := by
  unfold mkA mrk
  congr 1
  refine List.ext_getElem (by simp) fun i h1 h2 => by simp
theorem mkA_get {S : Int → Bool} {L : List Int} {n k i : Nat} (hi : i < n) : (mkA S L n k)[i]? = some (.bool (mrk S (L.take k) i)) := by
  simp [mkA, hi]
theorem mrk_next {S : Int → Bool} {L : List Int} {k : Nat} (hk : k < L.length) (i : Nat) : mrk S (L.take (k + 1)) i = (mrk S (L.take k) i || (L[k] == (i : Int) && S L[k])) := by
  unfold mrk
  rw [List.take_succ_eq_append_getElem hk, List.any_append]
  simp only [List.any_cons, List.any_nil, Bool.or_false]
theorem mkA_no {S : Int → Bool} {L : List Int} {n k : Nat} (hk : k < L.length) (h : S L[k] = false) : mkA S L n k = mkA S L n (k + 1) := by
  unfold mkA
  congr 1
  refine List.map_congr_left fun i _ => ?_
  rw [mrk_next hk, h]
  simp
theorem mkA_set {S : Int → Bool} {L : List Int} {n k j : Nat} (hk : k < L.length) (h : S L[k] = true) (hj : L[k] = (j : Int)) : (mkA S L n k).setIfInBounds j (.bool true) = mkA S L n (k + 1) := by
  unfold mkA
  rw [List.setIfInBounds_toArray]
  congr 1
  refine List.ext_getElem (by simp) fun i h1 h2 => ?_
  rw [List.getElem_set]
  simp only [List.getElem_map, List.getElem_range]
  rw [mrk_next hk, h, hj]
  by_cases hij : j = i
  · subst hij; simp
  · rw [if_neg hij]
    have : ((j : Int) == (i : Int)) = false := by simp; omega
    rw [this]
    simp
theorem nrs_no {D : Int → Int} {M : Nat → Bool} {k : Nat} (h : M k = false) : nrs D M (k + 1) = nrs D M k := by
  rw [nrs, h]
  simp
theorem nrs_yes {D : Int → Int} {M : Nat → Bool} {k : Nat} {b : Int} (h : M k = true) (hb : nrs D M k = b) : nrs D M (k + 1) = if b < 0 ∨ D k < D b then (k : Int) else b := by
  rw [nrs, h, hb]
  simp
theorem all_next {p : Nat → Prop} {k : Nat} (h : ∀ s, s < k → p s) (h2 : p k) : ∀ s, s < k + 1 → p s := by
  intro s hs
  by_cases hk : s = k
  · subst hk; exact h2
  · exact h s (by omega)
set_option maxRecDepth 8000 in
set_option maxHeartbeats 4000000 in
theorem iRcv (w : World) (A As : Option Addr) (n c ns cs : Nat) (rg sn r : Int) (P L : List Int) (hn : P.length = n) (hC : Cel w A (P.map (Value.int .i64))) (hl : n ≤ 1048576) (hns : L.length = ns) (hCs : Cel w As (L.map (Value.int .i64))) (hls : ns ≤ 1048576) :
    Calls Try.prog 51 #[.agg #[.slice A n c, .int .i64 rg, .int .i64 sn], .slice As ns cs, .int .i64 r] w fun e w' => e = .returned (.int .i64 (rfV P rg sn L r)) ∧ Ext w w' := by
  have b1 := Lib.hid (new_blk1 w #[.slice A n c, .int .i64 rg, .int .i64 sn] 74)
  have E0 := Lib.hid (Ext.alloc_ w (.cells #[.slice A n c, .int .i64 rg, .int .i64 sn] 74))
  have HC := Lib.hid hC
  have HL := Lib.hid hCs
  have HN := Lib.hid hn
  have HM := Lib.hid hns
  have hmk := fun W => make_one elBool (z := .bool false) (by kernel_rfl) rfl n (by omega) (by omega) W
  obtain ⟨V, hV⟩ : ∃ V, rfV P rg sn L r = V := ⟨_, rfl⟩
  rw [hV]
  clear hC hn hCs hns
  cases hpl : plB P r with
  | false =>
    have HV := Lib.hid (show V = -1 by rw [← hV]; unfold rfV; rw [if_pos hpl])
    clear hV
    obtain ⟨x1, x2, x3⟩ := blk_cells (b1.out)
    have p0 := x1 0
    have p1 := x1 1
    have p2 := x1 2
    simp at p0 p1 p2
    clear x1
    go_enter Try.func51, Try.ntmps51
    go_wp2_with fail
    refine (iPl _ _ _ _ _ _ P _ HN.out (HC.out.ext E0.out) hl).mono ?_
    rintro e w1 ⟨rfl, h1⟩
    rw [hpl]
    have E1 := Lib.hid (Ext.trans E0.out h1)
    clear h1
    go_wp2_with fail
    go_ret
    exact ⟨by rw [HV.out]; rfl, E1.out⟩
  | true =>
    obtain ⟨D, hD⟩ : ∃ D : Int → Int, (fun s => dstV P s r) = D := ⟨_, rfl⟩
    obtain ⟨S, hS⟩ : ∃ S : Int → Bool, (fun s => crB P sn s r) = S := ⟨_, rfl⟩
    have HV := Lib.hid hV
    have HP := Lib.hid hpl
    have HD := Lib.hid hD
    have HS := Lib.hid hS
    have hDs := Lib.hid (fun s => (congrFun hD s : dstV P s r = D s))
    have hSs := Lib.hid (fun s => (congrFun hS s : crB P sn s r = S s))
    have h00 := Lib.hid (show ∀ s ∈ L, S s = true → 0 ≤ s ∧ s < n by
      intro s hs h
      have := cr_h0 P sn r L s hs ((congrFun hS s).trans h)
      rw [HN.out] at this
      exact this)
    rw [mkA_zero S L n] at hmk
    obtain ⟨cp, hcp⟩ : ∃ cp, mkA S L n = cp := ⟨_, rfl⟩
    rw [hcp] at hmk
    have HCP := Lib.hid hcp
    clear hV hpl hD hS hcp
    obtain ⟨x1, x2, x3⟩ := blk_cells (b1.out)
    have p0 := x1 0
    have p1 := x1 1
    have p2 := x1 2
    simp at p0 p1 p2
    clear x1
    go_enter Try.func51, Try.ntmps51
    go_wp2_with fail
    refine (iPl _ _ _ _ _ _ P _ HN.out (HC.out.ext E0.out) hl).mono ?_
    rintro e w1 ⟨rfl, h1⟩
    rw [HP.out]
    have e2 := Ext.alloc_ w1 (.cells (cp 0) 4)
    have E2 := Lib.hid (Ext.trans E0.out (Ext.trans h1 e2))
    have b2 := Lib.hid (ext_blk h1 b1.out)
    have b3 := Lib.hid (ext_blk (Ext.trans h1 e2) b1.out)
    have g3 := Lib.hid (new_blk1 w1 (cp 0) 4)
    have hgw : w.heap.size < w1.heap.size := (Array.getElem?_eq_some_iff.1 b2.out).1
    clear h1 e2 E0 b1 p0 p1 p2 x2 x3
    obtain ⟨x1, x2, x3⟩ := blk_cells (b2.out)
    have p0 := x1 0
    have p1 := x1 1
    have p2 := x1 2
    simp at p0 p1 p2
    clear x1
    go_wp2_with fail
    clear p0 p1 p2 x2 x3 b2
    generalize World.alloc w1 _ = w2 at *
    generalize w1.heap.size = gs at *
    clear hmk
    go_loopw [25] (fun i wr => ∃ k : Nat, k ≤ ns ∧ i = .int .i64 k ∧ Hid (r ∉ L.take k) ∧ Hid (wr.heap[gs]? = some (.cells (cp k) 4 (0, 0))) ∧ Hid (wr.heap[w.heap.size]? = some (.cells #[.slice A n c, .int .i64 rg, .int .i64 sn] 74 (0, 0))) ∧ Hid (Ext w wr)) (fun i _ => ns - (intOf i).toNat)
    case atStart => exact ⟨0, Nat.zero_le _, rfl, Lib.hid (by simp), g3, b3, E2⟩
    case round =>
      clear E2 b3 g3
      obtain ⟨k, hk, rfl, hNI, hG, hBx, hE⟩ := hrel
      obtain ⟨x1, x2, x3⟩ := blk_cells (hBx.out)
      have p0 := x1 0
      have p1 := x1 1
      have p2 := x1 2
      simp at p0 p1 p2
      clear x1
      have HW := Lib.hid (HC.out.ext hE.out)
      by_cases hlt : k < ns
      · have hkl : k < L.length := by rw [HM.out]; exact hlt
        obtain ⟨bs, os, rfl, h5, h6⟩ := (HL.out.ext hE.out).map_at (List.ne_nil_of_length_pos (by omega))
        have hck := h6 k hkl
        have hlt' : (k : Int) < (ns : Int) := by omega
        have hk0 : (0 : Int) ≤ (k : Int) := by omega
        have hno := Lib.hid (mkA_no (S := S) (n := n) hkl)
        have hye := Lib.hid (fun j => mkA_set (S := S) (n := n) (j := j) hkl)
        have hnt := Lib.hid (notin_take (r := r) hkl hNI.out)
        have hmem := Lib.hid (List.getElem_mem hkl)
        rw [HCP.out] at hno
        rw [HCP.out] at hye
        generalize L[k] = s at *
        clear h6
        by_cases hsr : s = r
        · have HV2 := Lib.hid (show V = -1 by rw [← HV.out]; exact rf_in (by rw [← hsr]; exact hmem.out))
          go_wp2_with fail
          go_ret
          exact ⟨by rw [HV2.out]; rfl, hE.out⟩
        · have hNI2 := Lib.hid (hnt.out hsr)
          go_wp2_with fail
          refine (iPl _ _ _ _ _ _ P _ HN.out HW.out hl).mono ?_
          rintro e w3 ⟨rfl, h3⟩
          have E3 := Lib.hid (Ext.trans hE.out h3)
          have HW3 := Lib.hid (HW.out.ext h3)
          have G3 := Lib.hid (ext_blk h3 hG.out)
          have B3 := Lib.hid (ext_blk h3 hBx.out)
          clear h3 HW p0 p1 p2 x2 x3 hck hG hBx hE
          cases hp : plB P s with
          | false =>
            have hS0 : S s = false := by rw [← hSs.out s]; exact cr_1 hp
            have G4 := Lib.hid (show w3.heap[gs]? = some (.cells (cp (k + 1)) 4 (0, 0)) by rw [← hno.out hS0]; exact G3.out)
            clear hS0 hp
            go_wp2_with fail
            go_roundw
            case rel => exact ⟨k + 1, by omega, by go_num, hNI2, G4, B3, E3⟩
            case measure => simp [intOf]; omega
          | true =>
            obtain ⟨x1, x2, x3⟩ := blk_cells (B3.out)
            have p0 := x1 0
            have p1 := x1 1
            have p2 := x1 2
            simp at p0 p1 p2
            clear x1
            go_wp2_with fail
            refine (iCs _ _ _ _ _ _ P _ _ HN.out HW3.out hl).mono ?_
            rintro e w4 ⟨rfl, h4⟩
            rw [hSs.out s]
            have E4 := Lib.hid (Ext.trans E3.out h4)
            have G4 := Lib.hid (ext_blk h4 G3.out)
            have B4 := Lib.hid (ext_blk h4 B3.out)
            clear h4 HW3 E3 G3 B3 p0 p1 p2 x2 x3
            cases hs : S s with
            | false =>
              have G5 := Lib.hid (show w4.heap[gs]? = some (.cells (cp (k + 1)) 4 (0, 0)) by rw [← hno.out hs]; exact G4.out)
              clear hs hp
              go_wp2_with fail
              go_roundw
              case rel => exact ⟨k + 1, by omega, by go_num, hNI2, G5, B4, E4⟩
              case measure => simp [intOf]; omega
            | true =>
              obtain ⟨j, rfl, hj⟩ := plB_true hp
              rw [HN.out] at hj
              have hj0 : (0 : Int) ≤ (j : Int) := by omega
              have hj1 : (j : Int) < (n : Int) := by omega
              obtain ⟨y1, y2, y3⟩ := blk_cells G4.out
              have q0 := y1 j
              rw [← HCP.out, mkA_get hj] at q0
              have G5 := Lib.hid (show (w4.setCell ⟨gs, j, none⟩ (.bool true)).heap[gs]? = some (.cells (cp (k + 1)) 4 (0, 0)) by rw [← hye.out j hs rfl]; exact blk_set G4.out j _)
              have B5 := Lib.hid (set_blk (p := ⟨gs, j, none⟩) (u := .bool true) B4.out (by simp; omega))
              have E5 := Lib.hid (Ext.setCell_ (p := ⟨gs, j, none⟩) E4.out (by simp; omega) (.bool true))
              clear hs hp y1
              go_wp2_with fail
              go_roundw
              case rel => exact ⟨k + 1, by omega, by go_num, hNI2, G5, B5, E5⟩
              case measure => simp [intOf]; omega
      · have hkn : k = ns := by omega
        have hlt' : ¬ (k : Int) < (ns : Int) := by omega
        obtain ⟨M, hMe⟩ : ∃ M, mrk S L = M := ⟨_, rfl⟩
        have hCM := Lib.hid (show ∀ i, i < n → (cp k)[i]? = some (.bool (M i)) by
          intro i hi
          rw [← HCP.out, mkA_get hi, hkn, ← HM.out, List.take_length, hMe])
        have hNI' : r ∉ L := by have h := hNI.out; rw [hkn, ← HM.out, List.take_length] at h; exact h
        have HME := Lib.hid hMe
        have HNI := Lib.hid hNI'
        obtain ⟨cm, hcm⟩ : ∃ cm, cp k = cm := ⟨_, rfl⟩
        rw [hcm] at hCM hG
        obtain ⟨wE, hwE⟩ : ∃ x : World, x = wr := ⟨_, rfl⟩
        subst hwE
        clear hkn hMe hNI' hNI hcm HCP HL
        go_wp2_with fail
        clear p0 p1 p2 x2 x3
        go_loopw [10, 47] (fun nv i wr => ∃ k : Nat, k ≤ n ∧ nv = .int .i64 (nrs D M k) ∧ i = .int .i64 k ∧ Hid (Ext wE wr)) (fun _ i _ => n - (intOf i).toNat)
        case atStart => exact ⟨0, Nat.zero_le _, rfl, rfl, Lib.hid (Ext.refl _)⟩
        case round =>
          have E1 := Lib.hid hE.out
          have HC1 := Lib.hid HW.out
          clear hE HW
          obtain ⟨k, hk, rfl, rfl, hE⟩ := hrel
          have HW := Lib.hid (HC1.out.ext hE.out)
          obtain ⟨x1, x2, x3⟩ := blk_cells (ext_blk hE.out hBx.out)
          have p0 := x1 0
          have p1 := x1 1
          have p2 := x1 2
          simp at p0 p1 p2
          clear x1
          by_cases hlt : k < n
          · obtain ⟨y1, y2, y3⟩ := blk_cells (ext_blk hE.out hG.out)
            have q0 := y1 k
            rw [hCM.out k hlt] at q0
            have hlt' : (k : Int) < (n : Int) := by omega
            have hk0 : (0 : Int) ≤ (k : Int) := by omega
            cases hm : M k with
            | false =>
              rw [hm] at q0
              have hb := Lib.hid (nrs_no (D := D) hm)
              clear hm y1
              go_wp2_with fail
              refine wp_region_chain 16 (by kernel_rfl) (by kernel_rfl) ?_
              simp only [List.take_succ_cons, List.take_zero, List.drop_succ_cons, List.drop_zero]
              iterate 16 (apply Chain.quiet; · (intro vs wq hEq hd; obtain ⟨hcq, hfq⟩ := bcell hEq; clear hEq hd; (try simp only [Act.put, SP.pick, SP.is, SP.box, id_eq, List.take_succ_cons, List.take_zero, List.drop_succ_cons, List.drop_zero, List.setIfInBounds_toArray, List.set_cons_zero, List.set_cons_succ]); refine growOp_go ?_; go_simp; first | exact ⟨Ext.refl _, rfl⟩ | exact rfl | (split; (exfalso; omega); (first | exact ⟨Ext.refl _, rfl⟩ | exact rfl)) | (split; (first | exact ⟨Ext.refl _, rfl⟩ | exact rfl); (exfalso; omega))))
              refine Chain.done ?_
              intro vs w5 hE5 hd5
              simp only [Act.put, SP.pick, SP.is, SP.box, id_eq, List.take_succ_cons, List.take_zero, List.drop_succ_cons, List.drop_zero, List.setIfInBounds_toArray, List.set_cons_zero, List.set_cons_succ]
              clear hd5
              have E5 := Lib.hid (Ext.trans hE.out hE5)
              clear hE5
              go_wp2_with fail
              go_roundw
              case rel => exact ⟨k + 1, by omega, by rw [hb.out], by go_num, E5⟩
              case measure => simp [intOf]; omega
            | true =>
              rw [hm] at q0
              obtain ⟨b, hbe⟩ : ∃ b, nrs D M k = b := ⟨_, rfl⟩
              have hb0 := nrs_yes hm hbe
              rw [hbe]
              obtain ⟨xs, hxs⟩ : ∃ x, D k = x := ⟨_, rfl⟩
              obtain ⟨xb, hxb⟩ : ∃ x, D b = x := ⟨_, rfl⟩
              rw [hxs, hxb] at hb0
              have Y1 := Lib.hid (show dstV P k r = xs from (hDs.out k).trans hxs)
              have Y2 := Lib.hid (show dstV P b r = xb from (hDs.out b).trans hxb)
              clear hm hbe hxs hxb y1
              by_cases c1 : b < 0
              · rw [if_pos (.inl c1)] at hb0
                have hb := Lib.hid hb0
                clear hb0
                go_wp2_with fail
                refine wp_region_chain 16 (by kernel_rfl) (by kernel_rfl) ?_
                simp only [List.take_succ_cons, List.take_zero, List.drop_succ_cons, List.drop_zero]
                iterate 3 (apply Chain.quiet; · (intro vs wq hEq hd; obtain ⟨hcq, hfq⟩ := bcell hEq; clear hEq hd; (try simp only [Act.put, SP.pick, SP.is, SP.box, id_eq, List.take_succ_cons, List.take_zero, List.drop_succ_cons, List.drop_zero, List.setIfInBounds_toArray, List.set_cons_zero, List.set_cons_succ]); refine growOp_go ?_; go_simp; first | exact ⟨Ext.refl _, rfl⟩ | exact rfl | (split; (exfalso; omega); (first | exact ⟨Ext.refl _, rfl⟩ | exact rfl)) | (split; (first | exact ⟨Ext.refl _, rfl⟩ | exact rfl); (exfalso; omega))))
                (refine Chain.quiet (V := .bool true) ?_ ?_; · (intro vs wq hEq hd; obtain ⟨hcq, hfq⟩ := bcell hEq; clear hEq hd; (try simp only [Act.put, SP.pick, SP.is, SP.box, id_eq, List.take_succ_cons, List.take_zero, List.drop_succ_cons, List.drop_zero, List.setIfInBounds_toArray, List.set_cons_zero, List.set_cons_succ]); refine growOp_go ?_; go_simp; first | exact Ext.refl _ | exact ⟨Ext.refl _, rfl⟩ | (refine ⟨Ext.refl _, ?_⟩; first | omega | (simp; omega) | (simp; done))))
                iterate 12 (apply Chain.quiet; · (intro vs wq hEq hd; obtain ⟨hcq, hfq⟩ := bcell hEq; clear hEq hd; (try simp only [Act.put, SP.pick, SP.is, SP.box, id_eq, List.take_succ_cons, List.take_zero, List.drop_succ_cons, List.drop_zero, List.setIfInBounds_toArray, List.set_cons_zero, List.set_cons_succ]); refine growOp_go ?_; go_simp; first | exact ⟨Ext.refl _, rfl⟩ | exact rfl | (split; (exfalso; omega); (first | exact ⟨Ext.refl _, rfl⟩ | exact rfl)) | (split; (first | exact ⟨Ext.refl _, rfl⟩ | exact rfl); (exfalso; omega))))
                refine Chain.done ?_
                intro vs w5 hE5 hd5
                simp only [Act.put, SP.pick, SP.is, SP.box, id_eq, List.take_succ_cons, List.take_zero, List.drop_succ_cons, List.drop_zero, List.setIfInBounds_toArray, List.set_cons_zero, List.set_cons_succ]
                clear hd5
                have E5 := Lib.hid (Ext.trans hE.out hE5)
                clear hE5
                go_wp2_with fail
                go_roundw
                case rel => exact ⟨k + 1, by omega, by rw [hb.out], by go_num, E5⟩
                case measure => simp [intOf]; omega
              by_cases c2 : xs < xb
              · rw [if_pos (.inr c2)] at hb0
                have hb := Lib.hid hb0
                clear hb0
                go_wp2_with fail
                refine wp_region_chain 16 (by kernel_rfl) (by kernel_rfl) ?_
                simp only [List.take_succ_cons, List.take_zero, List.drop_succ_cons, List.drop_zero]
                iterate 3 (apply Chain.quiet; · (intro vs wq hEq hd; obtain ⟨hcq, hfq⟩ := bcell hEq; clear hEq hd; (try simp only [Act.put, SP.pick, SP.is, SP.box, id_eq, List.take_succ_cons, List.take_zero, List.drop_succ_cons, List.drop_zero, List.setIfInBounds_toArray, List.set_cons_zero, List.set_cons_succ]); refine growOp_go ?_; go_simp; first | exact ⟨Ext.refl _, rfl⟩ | exact rfl | (split; (exfalso; omega); (first | exact ⟨Ext.refl _, rfl⟩ | exact rfl)) | (split; (first | exact ⟨Ext.refl _, rfl⟩ | exact rfl); (exfalso; omega))))
                (refine Chain.quiet (V := .bool false) ?_ ?_; · (intro vs wq hEq hd; obtain ⟨hcq, hfq⟩ := bcell hEq; clear hEq hd; (try simp only [Act.put, SP.pick, SP.is, SP.box, id_eq, List.take_succ_cons, List.take_zero, List.drop_succ_cons, List.drop_zero, List.setIfInBounds_toArray, List.set_cons_zero, List.set_cons_succ]); refine growOp_go ?_; go_simp; first | exact Ext.refl _ | exact ⟨Ext.refl _, rfl⟩ | (refine ⟨Ext.refl _, ?_⟩; first | omega | (simp; omega) | (simp; done))))
                iterate 4 (apply Chain.quiet; · (intro vs wq hEq hd; obtain ⟨hcq, hfq⟩ := bcell hEq; clear hEq hd; (try simp only [Act.put, SP.pick, SP.is, SP.box, id_eq, List.take_succ_cons, List.take_zero, List.drop_succ_cons, List.drop_zero, List.setIfInBounds_toArray, List.set_cons_zero, List.set_cons_succ]); refine growOp_go ?_; go_simp; first | exact ⟨Ext.refl _, rfl⟩ | exact rfl | (split; (exfalso; omega); (first | exact ⟨Ext.refl _, rfl⟩ | exact rfl)) | (split; (first | exact ⟨Ext.refl _, rfl⟩ | exact rfl); (exfalso; omega))))
                (apply Chain.quiet; · (intro vs wq hEq hd; obtain ⟨hcq, hfq⟩ := bcell hEq; have hCq := Lib.hid (Cel.ext HW.out hEq); clear hEq hd; (try simp only [Act.put, SP.pick, SP.is, SP.box, id_eq, List.take_succ_cons, List.take_zero, List.drop_succ_cons, List.drop_zero, List.setIfInBounds_toArray, List.set_cons_zero, List.set_cons_succ]); refine growOp_go ?_; go_simp; refine (iDst _ _ _ _ _ _ P _ _ HN.out hCq.out hl).mono ?_; rintro e w5 ⟨rfl, hb⟩; rw [Y1.out]; first | exact ⟨rfl, hb⟩ | exact ⟨_, rfl, hb, rfl⟩))
                iterate 3 (apply Chain.quiet; · (intro vs wq hEq hd; obtain ⟨hcq, hfq⟩ := bcell hEq; clear hEq hd; (try simp only [Act.put, SP.pick, SP.is, SP.box, id_eq, List.take_succ_cons, List.take_zero, List.drop_succ_cons, List.drop_zero, List.setIfInBounds_toArray, List.set_cons_zero, List.set_cons_succ]); refine growOp_go ?_; go_simp; first | exact ⟨Ext.refl _, rfl⟩ | exact rfl | (split; (exfalso; omega); (first | exact ⟨Ext.refl _, rfl⟩ | exact rfl)) | (split; (first | exact ⟨Ext.refl _, rfl⟩ | exact rfl); (exfalso; omega))))
                (apply Chain.quiet; · (intro vs wq hEq hd; obtain ⟨hcq, hfq⟩ := bcell hEq; have hCq := Lib.hid (Cel.ext HW.out hEq); clear hEq hd; (try simp only [Act.put, SP.pick, SP.is, SP.box, id_eq, List.take_succ_cons, List.take_zero, List.drop_succ_cons, List.drop_zero, List.setIfInBounds_toArray, List.set_cons_zero, List.set_cons_succ]); refine growOp_go ?_; go_simp; refine (iDst _ _ _ _ _ _ P _ _ HN.out hCq.out hl).mono ?_; rintro e w5 ⟨rfl, hb⟩; rw [Y2.out]; first | exact ⟨rfl, hb⟩ | exact ⟨_, rfl, hb, rfl⟩))
                (refine Chain.quiet (V := .bool true) ?_ ?_; · (intro vs wq hEq hd; obtain ⟨hcq, hfq⟩ := bcell hEq; clear hEq hd; (try simp only [Act.put, SP.pick, SP.is, SP.box, id_eq, List.take_succ_cons, List.take_zero, List.drop_succ_cons, List.drop_zero, List.setIfInBounds_toArray, List.set_cons_zero, List.set_cons_succ]); refine growOp_go ?_; go_simp; first | exact Ext.refl _ | exact ⟨Ext.refl _, rfl⟩ | (refine ⟨Ext.refl _, ?_⟩; first | omega | (simp; omega) | (simp; done))))
                iterate 2 (apply Chain.quiet; · (intro vs wq hEq hd; obtain ⟨hcq, hfq⟩ := bcell hEq; clear hEq hd; (try simp only [Act.put, SP.pick, SP.is, SP.box, id_eq, List.take_succ_cons, List.take_zero, List.drop_succ_cons, List.drop_zero, List.setIfInBounds_toArray, List.set_cons_zero, List.set_cons_succ]); refine growOp_go ?_; go_simp; first | exact ⟨Ext.refl _, rfl⟩ | exact rfl | (split; (exfalso; omega); (first | exact ⟨Ext.refl _, rfl⟩ | exact rfl)) | (split; (first | exact ⟨Ext.refl _, rfl⟩ | exact rfl); (exfalso; omega))))
                refine Chain.done ?_
                intro vs w5 hE5 hd5
                simp only [Act.put, SP.pick, SP.is, SP.box, id_eq, List.take_succ_cons, List.take_zero, List.drop_succ_cons, List.drop_zero, List.setIfInBounds_toArray, List.set_cons_zero, List.set_cons_succ]
                clear hd5
                have E5 := Lib.hid (Ext.trans hE.out hE5)
                clear hE5
                go_wp2_with fail
                go_roundw
                case rel => exact ⟨k + 1, by omega, by rw [hb.out], by go_num, E5⟩
                case measure => simp [intOf]; omega
              · rw [if_neg (by omega)] at hb0
                have hb := Lib.hid hb0
                clear hb0
                go_wp2_with fail
                refine wp_region_chain 16 (by kernel_rfl) (by kernel_rfl) ?_
                simp only [List.take_succ_cons, List.take_zero, List.drop_succ_cons, List.drop_zero]
                iterate 3 (apply Chain.quiet; · (intro vs wq hEq hd; obtain ⟨hcq, hfq⟩ := bcell hEq; clear hEq hd; (try simp only [Act.put, SP.pick, SP.is, SP.box, id_eq, List.take_succ_cons, List.take_zero, List.drop_succ_cons, List.drop_zero, List.setIfInBounds_toArray, List.set_cons_zero, List.set_cons_succ]); refine growOp_go ?_; go_simp; first | exact ⟨Ext.refl _, rfl⟩ | exact rfl | (split; (exfalso; omega); (first | exact ⟨Ext.refl _, rfl⟩ | exact rfl)) | (split; (first | exact ⟨Ext.refl _, rfl⟩ | exact rfl); (exfalso; omega))))
                (refine Chain.quiet (V := .bool false) ?_ ?_; · (intro vs wq hEq hd; obtain ⟨hcq, hfq⟩ := bcell hEq; clear hEq hd; (try simp only [Act.put, SP.pick, SP.is, SP.box, id_eq, List.take_succ_cons, List.take_zero, List.drop_succ_cons, List.drop_zero, List.setIfInBounds_toArray, List.set_cons_zero, List.set_cons_succ]); refine growOp_go ?_; go_simp; first | exact Ext.refl _ | exact ⟨Ext.refl _, rfl⟩ | (refine ⟨Ext.refl _, ?_⟩; first | omega | (simp; omega) | (simp; done))))
                iterate 4 (apply Chain.quiet; · (intro vs wq hEq hd; obtain ⟨hcq, hfq⟩ := bcell hEq; clear hEq hd; (try simp only [Act.put, SP.pick, SP.is, SP.box, id_eq, List.take_succ_cons, List.take_zero, List.drop_succ_cons, List.drop_zero, List.setIfInBounds_toArray, List.set_cons_zero, List.set_cons_succ]); refine growOp_go ?_; go_simp; first | exact ⟨Ext.refl _, rfl⟩ | exact rfl | (split; (exfalso; omega); (first | exact ⟨Ext.refl _, rfl⟩ | exact rfl)) | (split; (first | exact ⟨Ext.refl _, rfl⟩ | exact rfl); (exfalso; omega))))
                (apply Chain.quiet; · (intro vs wq hEq hd; obtain ⟨hcq, hfq⟩ := bcell hEq; have hCq := Lib.hid (Cel.ext HW.out hEq); clear hEq hd; (try simp only [Act.put, SP.pick, SP.is, SP.box, id_eq, List.take_succ_cons, List.take_zero, List.drop_succ_cons, List.drop_zero, List.setIfInBounds_toArray, List.set_cons_zero, List.set_cons_succ]); refine growOp_go ?_; go_simp; refine (iDst _ _ _ _ _ _ P _ _ HN.out hCq.out hl).mono ?_; rintro e w5 ⟨rfl, hb⟩; rw [Y1.out]; first | exact ⟨rfl, hb⟩ | exact ⟨_, rfl, hb, rfl⟩))
                iterate 3 (apply Chain.quiet; · (intro vs wq hEq hd; obtain ⟨hcq, hfq⟩ := bcell hEq; clear hEq hd; (try simp only [Act.put, SP.pick, SP.is, SP.box, id_eq, List.take_succ_cons, List.take_zero, List.drop_succ_cons, List.drop_zero, List.setIfInBounds_toArray, List.set_cons_zero, List.set_cons_succ]); refine growOp_go ?_; go_simp; first | exact ⟨Ext.refl _, rfl⟩ | exact rfl | (split; (exfalso; omega); (first | exact ⟨Ext.refl _, rfl⟩ | exact rfl)) | (split; (first | exact ⟨Ext.refl _, rfl⟩ | exact rfl); (exfalso; omega))))
                (apply Chain.quiet; · (intro vs wq hEq hd; obtain ⟨hcq, hfq⟩ := bcell hEq; have hCq := Lib.hid (Cel.ext HW.out hEq); clear hEq hd; (try simp only [Act.put, SP.pick, SP.is, SP.box, id_eq, List.take_succ_cons, List.take_zero, List.drop_succ_cons, List.drop_zero, List.setIfInBounds_toArray, List.set_cons_zero, List.set_cons_succ]); refine growOp_go ?_; go_simp; refine (iDst _ _ _ _ _ _ P _ _ HN.out hCq.out hl).mono ?_; rintro e w5 ⟨rfl, hb⟩; rw [Y2.out]; first | exact ⟨rfl, hb⟩ | exact ⟨_, rfl, hb, rfl⟩))
                (refine Chain.quiet (V := .bool false) ?_ ?_; · (intro vs wq hEq hd; obtain ⟨hcq, hfq⟩ := bcell hEq; clear hEq hd; (try simp only [Act.put, SP.pick, SP.is, SP.box, id_eq, List.take_succ_cons, List.take_zero, List.drop_succ_cons, List.drop_zero, List.setIfInBounds_toArray, List.set_cons_zero, List.set_cons_succ]); refine growOp_go ?_; go_simp; first | exact Ext.refl _ | exact ⟨Ext.refl _, rfl⟩ | (refine ⟨Ext.refl _, ?_⟩; first | omega | (simp; omega) | (simp; done))))
                iterate 2 (apply Chain.quiet; · (intro vs wq hEq hd; obtain ⟨hcq, hfq⟩ := bcell hEq; clear hEq hd; (try simp only [Act.put, SP.pick, SP.is, SP.box, id_eq, List.take_succ_cons, List.take_zero, List.drop_succ_cons, List.drop_zero, List.setIfInBounds_toArray, List.set_cons_zero, List.set_cons_succ]); refine growOp_go ?_; go_simp; first | exact ⟨Ext.refl _, rfl⟩ | exact rfl | (split; (exfalso; omega); (first | exact ⟨Ext.refl _, rfl⟩ | exact rfl)) | (split; (first | exact ⟨Ext.refl _, rfl⟩ | exact rfl); (exfalso; omega))))
                refine Chain.done ?_
                intro vs w5 hE5 hd5
                simp only [Act.put, SP.pick, SP.is, SP.box, id_eq, List.take_succ_cons, List.take_zero, List.drop_succ_cons, List.drop_zero, List.setIfInBounds_toArray, List.set_cons_zero, List.set_cons_succ]
                clear hd5
                have E5 := Lib.hid (Ext.trans hE.out hE5)
                clear hE5
                go_wp2_with fail
                go_roundw
                case rel => exact ⟨k + 1, by omega, by rw [hb.out], by go_num, E5⟩
                case measure => simp [intOf]; omega
          · have hkn : k = n := by omega
            have hlt' : ¬ (k : Int) < (n : Int) := by omega
            obtain ⟨b, hbe⟩ : ∃ b, nrs D M k = b := ⟨_, rfl⟩
            rw [hbe]
            have hrf := rf_eq (rg := rg) (b := b) HD.out HS.out HP.out HNI.out (by rw [← hbe, hkn, ← HME.out]; exact (bst_nrs D S L n h00.out).symm)
            rw [HV.out] at hrf
            have HRF := Lib.hid hrf
            have hcm := cap_mrk D S L n h00.out b
            rw [HME.out] at hcm
            have HCA := Lib.hid hcm
            obtain ⟨xb, hxb⟩ : ∃ x, D b = x := ⟨_, rfl⟩
            have Y2 := Lib.hid (show dstV P b r = xb from (hDs.out b).trans hxb)
            obtain ⟨x2b, hx2⟩ : ∃ x, IntKind.i64.wrap (2 * xb) = x := ⟨_, rfl⟩
            have HX2 := Lib.hid (show wrap64 (2 * D b) = x2b by rw [hxb, ← hx2]; simp [wrap64, IntKind.wrap_i64])
            have E2 := Lib.hid (Ext.trans E1.out hE.out)
            have b3 := Lib.hid (ext_blk hE.out hBx.out)
            have g3 := Lib.hid (ext_blk hE.out hG.out)
            clear hkn hbe hrf hxb hcm E1 HC1 hBx hG hE
            by_cases c1 : b < 0
            · have HV2 := Lib.hid (show V = -1 by rw [HRF.out, if_pos (.inl c1)])
              go_wp2_with fail
              go_ret
              exact ⟨by rw [HV2.out]; rfl, E2.out⟩
            go_wp2_with fail
            refine (iCr _ _ _ _ _ _ P _ _ HN.out HW.out hl).mono ?_
            rintro e w9 ⟨rfl, h9⟩
            have E9 := Lib.hid (Ext.trans E2.out h9)
            have b9 := Lib.hid (ext_blk h9 b3.out)
            have g9 := Lib.hid (ext_blk h9 g3.out)
            have HW9 := Lib.hid (HW.out.ext h9)
            clear h9 E2 b3 g3 HW p0 p1 p2 x2 x3
            cases hr : crB P rg b r with
            | false =>
              have HV2 := Lib.hid (show V = -1 by rw [HRF.out, if_pos (.inr (.inl hr))])
              go_wp2_with fail
              go_ret
              exact ⟨by rw [HV2.out]; rfl, E9.out⟩
            | true =>
              have HR := Lib.hid hr
              clear hr
              go_wp2_with fail
              go_loopw [81] (fun i wr => ∃ k : Nat, k ≤ n ∧ i = .int .i64 k ∧ Hid (∀ s : Nat, s < k → ¬ (M s = true ∧ (s : Int) ≠ b ∧ D s < x2b)) ∧ Hid (Ext w9 wr)) (fun i _ => n - (intOf i).toNat)
              case atStart => exact ⟨0, Nat.zero_le _, rfl, Lib.hid (fun s h => by omega), Lib.hid (Ext.refl _)⟩
              case round =>
                obtain ⟨k, hk, rfl, hAF, hE⟩ := hrel
                have HW := Lib.hid (HW9.out.ext hE.out)
                obtain ⟨x1, x2, x3⟩ := blk_cells (ext_blk hE.out b9.out)
                have p0 := x1 0
                have p1 := x1 1
                have p2 := x1 2
                simp at p0 p1 p2
                clear x1
                by_cases hlt : k < n
                · obtain ⟨y1, y2, y3⟩ := blk_cells (ext_blk hE.out g9.out)
                  have q0 := y1 k
                  rw [hCM.out k hlt] at q0
                  have hlt' : (k : Int) < (n : Int) := by omega
                  have hk0 : (0 : Int) ≤ (k : Int) := by omega
                  have hat := Lib.hid (all_next hAF.out)
                  obtain ⟨mv, hmv⟩ : ∃ mv, M k = mv := ⟨_, rfl⟩
                  rw [hmv] at q0
                  have HMK := Lib.hid hmv
                  clear hmv y1
                  go_wp2_with fail
                  cases mv with
                  | false =>
                    have hn2 := Lib.hid (hat.out (fun h => by rw [HMK.out] at h; cases h.1))
                    refine wp_region_chain 18 (by kernel_rfl) (by kernel_rfl) ?_
                    simp only [List.take_succ_cons, List.take_zero, List.drop_succ_cons, List.drop_zero]
                    iterate 18 (apply Chain.quiet; · (intro vs wq hEq hd; obtain ⟨hcq, hfq⟩ := bcell hEq; clear hEq hd; (try simp only [Act.put, SP.pick, SP.is, SP.box, id_eq, List.take_succ_cons, List.take_zero, List.drop_succ_cons, List.drop_zero, List.setIfInBounds_toArray, List.set_cons_zero, List.set_cons_succ]); refine growOp_go ?_; go_simp; first | exact ⟨Ext.refl _, rfl⟩ | exact rfl | (split; (exfalso; omega); (first | exact ⟨Ext.refl _, rfl⟩ | exact rfl)) | (split; (first | exact ⟨Ext.refl _, rfl⟩ | exact rfl); (exfalso; omega))))
                    refine Chain.done ?_
                    intro vs w5 hE5 hd5
                    simp only [Act.put, SP.pick, SP.is, SP.box, id_eq, List.take_succ_cons, List.take_zero, List.drop_succ_cons, List.drop_zero, List.setIfInBounds_toArray, List.set_cons_zero, List.set_cons_succ]
                    clear hd5
                    have E5 := Lib.hid (Ext.trans hE.out hE5)
                    clear hE5
                    go_wp2_with fail
                    go_roundw
                    case rel => exact ⟨k + 1, by omega, by go_num, hn2, E5⟩
                    case measure => simp [intOf]; omega
                  | true =>
                    obtain ⟨xs, hxs⟩ : ∃ x, D k = x := ⟨_, rfl⟩
                    have Y1 := Lib.hid (show dstV P k r = xs from (hDs.out k).trans hxs)
                    have HXS := Lib.hid hxs
                    clear hxs
                    by_cases c2 : (k : Int) = b
                    · have hn2 := Lib.hid (hat.out (fun h => h.2.1 c2))
                      refine wp_region_chain 18 (by kernel_rfl) (by kernel_rfl) ?_
                      simp only [List.take_succ_cons, List.take_zero, List.drop_succ_cons, List.drop_zero]
                      iterate 4 (apply Chain.quiet; · (intro vs wq hEq hd; obtain ⟨hcq, hfq⟩ := bcell hEq; clear hEq hd; (try simp only [Act.put, SP.pick, SP.is, SP.box, id_eq, List.take_succ_cons, List.take_zero, List.drop_succ_cons, List.drop_zero, List.setIfInBounds_toArray, List.set_cons_zero, List.set_cons_succ]); refine growOp_go ?_; go_simp; first | exact ⟨Ext.refl _, rfl⟩ | exact rfl | (split; (exfalso; omega); (first | exact ⟨Ext.refl _, rfl⟩ | exact rfl)) | (split; (first | exact ⟨Ext.refl _, rfl⟩ | exact rfl); (exfalso; omega))))
                      (refine Chain.quiet (V := .bool false) ?_ ?_; · (intro vs wq hEq hd; obtain ⟨hcq, hfq⟩ := bcell hEq; clear hEq hd; (try simp only [Act.put, SP.pick, SP.is, SP.box, id_eq, List.take_succ_cons, List.take_zero, List.drop_succ_cons, List.drop_zero, List.setIfInBounds_toArray, List.set_cons_zero, List.set_cons_succ]); refine growOp_go ?_; go_simp; first | exact Ext.refl _ | exact ⟨Ext.refl _, rfl⟩ | (refine ⟨Ext.refl _, ?_⟩; first | omega | (simp; omega) | (simp; done))))
                      iterate 13 (apply Chain.quiet; · (intro vs wq hEq hd; obtain ⟨hcq, hfq⟩ := bcell hEq; clear hEq hd; (try simp only [Act.put, SP.pick, SP.is, SP.box, id_eq, List.take_succ_cons, List.take_zero, List.drop_succ_cons, List.drop_zero, List.setIfInBounds_toArray, List.set_cons_zero, List.set_cons_succ]); refine growOp_go ?_; go_simp; first | exact ⟨Ext.refl _, rfl⟩ | exact rfl | (split; (exfalso; omega); (first | exact ⟨Ext.refl _, rfl⟩ | exact rfl)) | (split; (first | exact ⟨Ext.refl _, rfl⟩ | exact rfl); (exfalso; omega))))
                      refine Chain.done ?_
                      intro vs w5 hE5 hd5
                      simp only [Act.put, SP.pick, SP.is, SP.box, id_eq, List.take_succ_cons, List.take_zero, List.drop_succ_cons, List.drop_zero, List.setIfInBounds_toArray, List.set_cons_zero, List.set_cons_succ]
                      clear hd5
                      have E5 := Lib.hid (Ext.trans hE.out hE5)
                      clear hE5
                      go_wp2_with fail
                      go_roundw
                      case rel => exact ⟨k + 1, by omega, by go_num, hn2, E5⟩
                      case measure => simp [intOf]; omega
                    by_cases c3 : xs < x2b
                    · have HV2 := Lib.hid (show V = -1 by rw [HRF.out, if_pos (.inr (.inr (HCA.out.2 ⟨k, hlt, HMK.out, c2, by rw [HXS.out, HX2.out]; exact c3⟩)))])
                      refine wp_region_chain 18 (by kernel_rfl) (by kernel_rfl) ?_
                      simp only [List.take_succ_cons, List.take_zero, List.drop_succ_cons, List.drop_zero]
                      iterate 4 (apply Chain.quiet; · (intro vs wq hEq hd; obtain ⟨hcq, hfq⟩ := bcell hEq; clear hEq hd; (try simp only [Act.put, SP.pick, SP.is, SP.box, id_eq, List.take_succ_cons, List.take_zero, List.drop_succ_cons, List.drop_zero, List.setIfInBounds_toArray, List.set_cons_zero, List.set_cons_succ]); refine growOp_go ?_; go_simp; first | exact ⟨Ext.refl _, rfl⟩ | exact rfl | (split; (exfalso; omega); (first | exact ⟨Ext.refl _, rfl⟩ | exact rfl)) | (split; (first | exact ⟨Ext.refl _, rfl⟩ | exact rfl); (exfalso; omega))))
                      (refine Chain.quiet (V := .bool true) ?_ ?_; · (intro vs wq hEq hd; obtain ⟨hcq, hfq⟩ := bcell hEq; clear hEq hd; (try simp only [Act.put, SP.pick, SP.is, SP.box, id_eq, List.take_succ_cons, List.take_zero, List.drop_succ_cons, List.drop_zero, List.setIfInBounds_toArray, List.set_cons_zero, List.set_cons_succ]); refine growOp_go ?_; go_simp; first | exact Ext.refl _ | exact ⟨Ext.refl _, rfl⟩ | (refine ⟨Ext.refl _, ?_⟩; first | omega | (simp; omega) | (simp; done))))
                      iterate 5 (apply Chain.quiet; · (intro vs wq hEq hd; obtain ⟨hcq, hfq⟩ := bcell hEq; clear hEq hd; (try simp only [Act.put, SP.pick, SP.is, SP.box, id_eq, List.take_succ_cons, List.take_zero, List.drop_succ_cons, List.drop_zero, List.setIfInBounds_toArray, List.set_cons_zero, List.set_cons_succ]); refine growOp_go ?_; go_simp; first | exact ⟨Ext.refl _, rfl⟩ | exact rfl | (split; (exfalso; omega); (first | exact ⟨Ext.refl _, rfl⟩ | exact rfl)) | (split; (first | exact ⟨Ext.refl _, rfl⟩ | exact rfl); (exfalso; omega))))
                      (apply Chain.quiet; · (intro vs wq hEq hd; obtain ⟨hcq, hfq⟩ := bcell hEq; have hCq := Lib.hid (Cel.ext HW.out hEq); clear hEq hd; (try simp only [Act.put, SP.pick, SP.is, SP.box, id_eq, List.take_succ_cons, List.take_zero, List.drop_succ_cons, List.drop_zero, List.setIfInBounds_toArray, List.set_cons_zero, List.set_cons_succ]); refine growOp_go ?_; go_simp; refine (iDst _ _ _ _ _ _ P _ _ HN.out hCq.out hl).mono ?_; rintro e w5 ⟨rfl, hb⟩; rw [Y1.out]; first | exact ⟨rfl, hb⟩ | exact ⟨_, rfl, hb, rfl⟩))
                      iterate 3 (apply Chain.quiet; · (intro vs wq hEq hd; obtain ⟨hcq, hfq⟩ := bcell hEq; clear hEq hd; (try simp only [Act.put, SP.pick, SP.is, SP.box, id_eq, List.take_succ_cons, List.take_zero, List.drop_succ_cons, List.drop_zero, List.setIfInBounds_toArray, List.set_cons_zero, List.set_cons_succ]); refine growOp_go ?_; go_simp; first | exact ⟨Ext.refl _, rfl⟩ | exact rfl | (split; (exfalso; omega); (first | exact ⟨Ext.refl _, rfl⟩ | exact rfl)) | (split; (first | exact ⟨Ext.refl _, rfl⟩ | exact rfl); (exfalso; omega))))
                      (apply Chain.quiet; · (intro vs wq hEq hd; obtain ⟨hcq, hfq⟩ := bcell hEq; have hCq := Lib.hid (Cel.ext HW.out hEq); clear hEq hd; (try simp only [Act.put, SP.pick, SP.is, SP.box, id_eq, List.take_succ_cons, List.take_zero, List.drop_succ_cons, List.drop_zero, List.setIfInBounds_toArray, List.set_cons_zero, List.set_cons_succ]); refine growOp_go ?_; go_simp; refine (iDst _ _ _ _ _ _ P _ _ HN.out hCq.out hl).mono ?_; rintro e w5 ⟨rfl, hb⟩; rw [Y2.out]; first | exact ⟨rfl, hb⟩ | exact ⟨_, rfl, hb, rfl⟩))
                      iterate 1 (apply Chain.quiet; · (intro vs wq hEq hd; obtain ⟨hcq, hfq⟩ := bcell hEq; clear hEq hd; (try simp only [Act.put, SP.pick, SP.is, SP.box, id_eq, List.take_succ_cons, List.take_zero, List.drop_succ_cons, List.drop_zero, List.setIfInBounds_toArray, List.set_cons_zero, List.set_cons_succ]); refine growOp_go ?_; go_simp; first | exact ⟨Ext.refl _, rfl⟩ | exact rfl | (split; (exfalso; omega); (first | exact ⟨Ext.refl _, rfl⟩ | exact rfl)) | (split; (first | exact ⟨Ext.refl _, rfl⟩ | exact rfl); (exfalso; omega))))
                      (refine Chain.quiet (V := .bool true) ?_ ?_; · (intro vs wq hEq hd; obtain ⟨hcq, hfq⟩ := bcell hEq; clear hEq hd; (try simp only [Act.put, SP.pick, SP.is, SP.box, id_eq, List.take_succ_cons, List.take_zero, List.drop_succ_cons, List.drop_zero, List.setIfInBounds_toArray, List.set_cons_zero, List.set_cons_succ]); refine growOp_go ?_; go_simp; first | exact Ext.refl _ | exact ⟨Ext.refl _, rfl⟩ | (refine ⟨Ext.refl _, ?_⟩; first | omega | (simp; omega) | (simp; done))))
                      iterate 1 (apply Chain.quiet; · (intro vs wq hEq hd; obtain ⟨hcq, hfq⟩ := bcell hEq; clear hEq hd; (try simp only [Act.put, SP.pick, SP.is, SP.box, id_eq, List.take_succ_cons, List.take_zero, List.drop_succ_cons, List.drop_zero, List.setIfInBounds_toArray, List.set_cons_zero, List.set_cons_succ]); refine growOp_go ?_; go_simp; first | exact ⟨Ext.refl _, rfl⟩ | exact rfl | (split; (exfalso; omega); (first | exact ⟨Ext.refl _, rfl⟩ | exact rfl)) | (split; (first | exact ⟨Ext.refl _, rfl⟩ | exact rfl); (exfalso; omega))))
                      refine Chain.done ?_
                      intro vs w5 hE5 hd5
                      simp only [Act.put, SP.pick, SP.is, SP.box, id_eq, List.take_succ_cons, List.take_zero, List.drop_succ_cons, List.drop_zero, List.setIfInBounds_toArray, List.set_cons_zero, List.set_cons_succ]
                      clear hd5
                      have E5 := Lib.hid (Ext.trans hE.out hE5)
                      clear hE5
                      go_wp2_with fail
                      go_ret
                      exact ⟨by rw [HV2.out]; rfl, Ext.trans E9.out E5.out⟩
                    · have hn2 := Lib.hid (hat.out (fun h => c3 (by rw [← HXS.out]; exact h.2.2)))
                      refine wp_region_chain 18 (by kernel_rfl) (by kernel_rfl) ?_
                      simp only [List.take_succ_cons, List.take_zero, List.drop_succ_cons, List.drop_zero]
                      iterate 4 (apply Chain.quiet; · (intro vs wq hEq hd; obtain ⟨hcq, hfq⟩ := bcell hEq; clear hEq hd; (try simp only [Act.put, SP.pick, SP.is, SP.box, id_eq, List.take_succ_cons, List.take_zero, List.drop_succ_cons, List.drop_zero, List.setIfInBounds_toArray, List.set_cons_zero, List.set_cons_succ]); refine growOp_go ?_; go_simp; first | exact ⟨Ext.refl _, rfl⟩ | exact rfl | (split; (exfalso; omega); (first | exact ⟨Ext.refl _, rfl⟩ | exact rfl)) | (split; (first | exact ⟨Ext.refl _, rfl⟩ | exact rfl); (exfalso; omega))))
                      (refine Chain.quiet (V := .bool true) ?_ ?_; · (intro vs wq hEq hd; obtain ⟨hcq, hfq⟩ := bcell hEq; clear hEq hd; (try simp only [Act.put, SP.pick, SP.is, SP.box, id_eq, List.take_succ_cons, List.take_zero, List.drop_succ_cons, List.drop_zero, List.setIfInBounds_toArray, List.set_cons_zero, List.set_cons_succ]); refine growOp_go ?_; go_simp; first | exact Ext.refl _ | exact ⟨Ext.refl _, rfl⟩ | (refine ⟨Ext.refl _, ?_⟩; first | omega | (simp; omega) | (simp; done))))
                      iterate 5 (apply Chain.quiet; · (intro vs wq hEq hd; obtain ⟨hcq, hfq⟩ := bcell hEq; clear hEq hd; (try simp only [Act.put, SP.pick, SP.is, SP.box, id_eq, List.take_succ_cons, List.take_zero, List.drop_succ_cons, List.drop_zero, List.setIfInBounds_toArray, List.set_cons_zero, List.set_cons_succ]); refine growOp_go ?_; go_simp; first | exact ⟨Ext.refl _, rfl⟩ | exact rfl | (split; (exfalso; omega); (first | exact ⟨Ext.refl _, rfl⟩ | exact rfl)) | (split; (first | exact ⟨Ext.refl _, rfl⟩ | exact rfl); (exfalso; omega))))
                      (apply Chain.quiet; · (intro vs wq hEq hd; obtain ⟨hcq, hfq⟩ := bcell hEq; have hCq := Lib.hid (Cel.ext HW.out hEq); clear hEq hd; (try simp only [Act.put, SP.pick, SP.is, SP.box, id_eq, List.take_succ_cons, List.take_zero, List.drop_succ_cons, List.drop_zero, List.setIfInBounds_toArray, List.set_cons_zero, List.set_cons_succ]); refine growOp_go ?_; go_simp; refine (iDst _ _ _ _ _ _ P _ _ HN.out hCq.out hl).mono ?_; rintro e w5 ⟨rfl, hb⟩; rw [Y1.out]; first | exact ⟨rfl, hb⟩ | exact ⟨_, rfl, hb, rfl⟩))
                      iterate 3 (apply Chain.quiet; · (intro vs wq hEq hd; obtain ⟨hcq, hfq⟩ := bcell hEq; clear hEq hd; (try simp only [Act.put, SP.pick, SP.is, SP.box, id_eq, List.take_succ_cons, List.take_zero, List.drop_succ_cons, List.drop_zero, List.setIfInBounds_toArray, List.set_cons_zero, List.set_cons_succ]); refine growOp_go ?_; go_simp; first | exact ⟨Ext.refl _, rfl⟩ | exact rfl | (split; (exfalso; omega); (first | exact ⟨Ext.refl _, rfl⟩ | exact rfl)) | (split; (first | exact ⟨Ext.refl _, rfl⟩ | exact rfl); (exfalso; omega))))
                      (apply Chain.quiet; · (intro vs wq hEq hd; obtain ⟨hcq, hfq⟩ := bcell hEq; have hCq := Lib.hid (Cel.ext HW.out hEq); clear hEq hd; (try simp only [Act.put, SP.pick, SP.is, SP.box, id_eq, List.take_succ_cons, List.take_zero, List.drop_succ_cons, List.drop_zero, List.setIfInBounds_toArray, List.set_cons_zero, List.set_cons_succ]); refine growOp_go ?_; go_simp; refine (iDst _ _ _ _ _ _ P _ _ HN.out hCq.out hl).mono ?_; rintro e w5 ⟨rfl, hb⟩; rw [Y2.out]; first | exact ⟨rfl, hb⟩ | exact ⟨_, rfl, hb, rfl⟩))
                      iterate 1 (apply Chain.quiet; · (intro vs wq hEq hd; obtain ⟨hcq, hfq⟩ := bcell hEq; clear hEq hd; (try simp only [Act.put, SP.pick, SP.is, SP.box, id_eq, List.take_succ_cons, List.take_zero, List.drop_succ_cons, List.drop_zero, List.setIfInBounds_toArray, List.set_cons_zero, List.set_cons_succ]); refine growOp_go ?_; go_simp; first | exact ⟨Ext.refl _, rfl⟩ | exact rfl | (split; (exfalso; omega); (first | exact ⟨Ext.refl _, rfl⟩ | exact rfl)) | (split; (first | exact ⟨Ext.refl _, rfl⟩ | exact rfl); (exfalso; omega))))
                      (refine Chain.quiet (V := .bool false) ?_ ?_; · (intro vs wq hEq hd; obtain ⟨hcq, hfq⟩ := bcell hEq; clear hEq hd; (try simp only [Act.put, SP.pick, SP.is, SP.box, id_eq, List.take_succ_cons, List.take_zero, List.drop_succ_cons, List.drop_zero, List.setIfInBounds_toArray, List.set_cons_zero, List.set_cons_succ]); refine growOp_go ?_; go_simp; first | exact Ext.refl _ | exact ⟨Ext.refl _, rfl⟩ | (refine ⟨Ext.refl _, ?_⟩; first | omega | (simp; omega) | (simp; done))))
                      iterate 1 (apply Chain.quiet; · (intro vs wq hEq hd; obtain ⟨hcq, hfq⟩ := bcell hEq; clear hEq hd; (try simp only [Act.put, SP.pick, SP.is, SP.box, id_eq, List.take_succ_cons, List.take_zero, List.drop_succ_cons, List.drop_zero, List.setIfInBounds_toArray, List.set_cons_zero, List.set_cons_succ]); refine growOp_go ?_; go_simp; first | exact ⟨Ext.refl _, rfl⟩ | exact rfl | (split; (exfalso; omega); (first | exact ⟨Ext.refl _, rfl⟩ | exact rfl)) | (split; (first | exact ⟨Ext.refl _, rfl⟩ | exact rfl); (exfalso; omega))))
                      refine Chain.done ?_
                      intro vs w5 hE5 hd5
                      simp only [Act.put, SP.pick, SP.is, SP.box, id_eq, List.take_succ_cons, List.take_zero, List.drop_succ_cons, List.drop_zero, List.setIfInBounds_toArray, List.set_cons_zero, List.set_cons_succ]
                      clear hd5
                      have E5 := Lib.hid (Ext.trans hE.out hE5)
                      clear hE5
                      go_wp2_with fail
                      go_roundw
                      case rel => exact ⟨k + 1, by omega, by go_num, hn2, E5⟩
                      case measure => simp [intOf]; omega
                · have hkn : k = n := by omega
                  have hlt' : ¬ (k : Int) < (n : Int) := by omega
                  have HV2 := Lib.hid (show V = b by
                    rw [HRF.out, if_neg]
                    rintro (h | h | h)
                    · omega
                    · rw [HR.out] at h; cases h
                    · obtain ⟨s, h1, h2, h3, h4⟩ := HCA.out.1 h
                      rw [HX2.out] at h4
                      exact hAF.out s (by rw [hkn]; exact h1) ⟨h2, h3, h4⟩)
                  clear hkn
                  go_wp2_with fail
                  go_ret
                  exact ⟨by rw [HV2.out]; rfl, Ext.trans E9.out hE.out⟩
end Go.Proofs.Ytkmklafjcjkpdaa
