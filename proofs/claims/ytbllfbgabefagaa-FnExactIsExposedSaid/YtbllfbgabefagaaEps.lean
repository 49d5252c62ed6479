/- Who is exposed: both walks. -/
import Derived.Test.YtbllfbgabefagaaRci
namespace Go.Proofs.Ytbllfbgabefagaa
open Go.RowKit
set_option linter.unusedVariables false
set_option linter.unusedSimpArgs false
def difB (a b x y : Int) : Bool := a != b && a != x && a != y && b != x && b != y && x != y
theorem ex_eq (P : List Int) (rg sn a b x y : Int) : exB P rg sn a b x y = (difB a b x y && crB P rg a x && crB P rg b y && crB P sn a b && decide (rfV P rg sn [a, b] x = a) && decide (rfV P rg sn [a, b] y = b)) := rfl
theorem dif_no {a b x y : Int} (h : a = b ∨ a = x ∨ a = y ∨ b = x ∨ b = y ∨ x = y) : difB a b x y = false := by
  unfold difB
  rcases h with h | h | h | h | h | h <;> subst h <;> simp
theorem dif_yes {a b x y : Int} (h1 : a ≠ b) (h2 : a ≠ x) (h3 : a ≠ y) (h4 : b ≠ x) (h5 : b ≠ y) (h6 : x ≠ y) : difB a b x y = true := by
  unfold difB
  simp [h1, h2, h3, h4, h5, h6]
/-- No two are the same, by position. -/
theorem dif_pos {a b x y : Int} : difB a b x y = true ↔ ∀ i k : Nat, k < i → i < 4 → [a, b, x, y][i]? ≠ [a, b, x, y][k]? := by
  unfold difB
  simp only [Bool.and_eq_true, bne_iff_ne, ne_eq]
  constructor
  · rintro ⟨⟨⟨⟨⟨h1, h2⟩, h3⟩, h4⟩, h5⟩, h6⟩ i k hk hi
    match i, k, hk, hi with
    | 1, 0, _, _ => simpa using fun h => h1 h.symm
    | 2, 0, _, _ => simpa using fun h => h2 h.symm
    | 2, 1, _, _ => simpa using fun h => h4 h.symm
    | 3, 0, _, _ => simpa using fun h => h3 h.symm
    | 3, 1, _, _ => simpa using fun h => h5 h.symm
    | 3, 2, _, _ => simpa using fun h => h6 h.symm
  · intro h
    refine ⟨⟨⟨⟨⟨?_, ?_⟩, ?_⟩, ?_⟩, ?_⟩, ?_⟩
    · have := h 1 0 (by omega) (by omega); simp at this; exact fun e => this e.symm
    · have := h 2 0 (by omega) (by omega); simp at this; exact fun e => this e.symm
    · have := h 3 0 (by omega) (by omega); simp at this; exact fun e => this e.symm
    · have := h 2 1 (by omega) (by omega); simp at this; exact fun e => this e.symm
    · have := h 3 1 (by omega) (by omega); simp at this; exact fun e => this e.symm
    · have := h 3 2 (by omega) (by omega); simp at this; exact fun e => this e.symm
set_option maxHeartbeats 1000000 in
theorem sDif (w : World) (A : Option Addr) (cs : Nat) (a b x y : Int) (hC : Cel w A ([a, b, x, y].map (Value.int .i64))) :
    Calls Try.prog 10 #[.slice A 4 cs] w fun e w' => e = .returned (.bool (difB a b x y)) ∧ Ext w w' := by
  obtain ⟨g, off, rfl, hg, hc⟩ := hC.map_at (by simp)
  obtain ⟨V, hV⟩ : ∃ V, difB a b x y = V := ⟨_, rfl⟩
  rw [hV]
  have HV := Lib.hid hV
  have H := Lib.hid hc
  obtain ⟨L, hL⟩ : ∃ L, [a, b, x, y] = L := ⟨_, rfl⟩
  have HD := Lib.hid (show V = true ↔ ∀ i k : Nat, k < i → i < 4 → L[i]? ≠ L[k]? by rw [← hV, dif_pos, hL])
  have hlen : L.length = 4 := by rw [← hL]; rfl
  have H2 := Lib.hid (show ∀ j (hj : j < L.length), w.cell? ⟨g, off + j, none⟩ = some (.int .i64 L[j]) by subst hL; exact hc)
  clear hV hc hL hC HV H
  go_enter Try.func10, Try.ntmps10
  go_wp2_with fail
  go_loopw [3] (fun i wr => ∃ ki : Nat, ki ≤ 4 ∧ i = .int .i64 ki ∧ Hid (∀ i k : Nat, k < i → i < ki → L[i]? ≠ L[k]?) ∧ Hid (Ext w wr)) (fun i _ => 4 - (intOf i).toNat)
  case atStart => exact ⟨0, by omega, rfl, Lib.hid (fun i k h1 h2 => by omega), Lib.hid (Ext.refl _)⟩
  case round =>
    obtain ⟨ki, hki, rfl, hA, hE⟩ := hrel
    by_cases hlt : ki < 4
    · have hlt' : (ki : Int) < 4 := by omega
      obtain ⟨wE, hwE⟩ : ∃ z : World, z = wr := ⟨_, rfl⟩
      subst hwE
      go_wp2_with fail
      go_loopw [4] (fun i wr => ∃ kk : Nat, kk ≤ ki ∧ i = .int .i64 kk ∧ Hid (∀ k : Nat, k < kk → L[ki]? ≠ L[k]?) ∧ Hid (Ext wE wr)) (fun i _ => ki - (intOf i).toNat)
      case atStart => exact ⟨0, by omega, rfl, Lib.hid (fun k h => by omega), Lib.hid (Ext.refl _)⟩
      case round =>
        have hE0 := Lib.hid hE.out
        obtain ⟨kk, hkk, rfl, hB, hE2⟩ := hrel
        have E2 := Lib.hid (Ext.trans hE0.out hE2.out)
        by_cases hl2 : kk < ki
        · have hl2' : (kk : Int) < (ki : Int) := by omega
          have hk0 : (0 : Int) ≤ (kk : Int) := by omega
          have hi0 : (0 : Int) ≤ (ki : Int) := by omega
          have hk4 : (kk : Int) < 4 := by omega
          have c1 : wr.cell? ⟨g, off + ki, none⟩ = some (.int .i64 L[ki]) := by rw [E2.out.cell hg]; exact H2.out ki (by omega)
          have c2 : wr.cell? ⟨g, off + kk, none⟩ = some (.int .i64 L[kk]) := by rw [E2.out.cell hg]; exact H2.out kk (by omega)
          have hgr : g < wr.heap.size := Nat.lt_of_lt_of_le hg E2.out.size
          have e1 : L[ki]? = some L[ki] := List.getElem?_eq_getElem (by omega)
          have e2 : L[kk]? = some L[kk] := List.getElem?_eq_getElem (by omega)
          generalize L[ki] = u at *
          generalize L[kk] = v at *
          have EE1 := Lib.hid e1
          have EE2 := Lib.hid e2
          clear e1 e2
          by_cases huv : u = v
          · have HV2 := Lib.hid (show V = false by
              rw [← Bool.not_eq_true]
              intro h
              refine (HD.out.1 h) ki kk hl2 hlt ?_
              rw [EE1.out, EE2.out, huv])
            subst huv
            go_wp2_with fail
            refine wp_region_chain 9 (by kernel_rfl) (by kernel_rfl) ?_
            simp only [List.take_succ_cons, List.take_zero, List.drop_succ_cons, List.drop_zero]
            iterate 9 (apply Chain.quiet; · (intro vs wq hEq hd; obtain ⟨hcq, hfq⟩ := bcell hEq; clear hEq hd; (try simp only [Act.put, SP.pick, SP.is, SP.box, id_eq, List.take_succ_cons, List.take_zero, List.drop_succ_cons, List.drop_zero, List.setIfInBounds_toArray, List.set_cons_zero, List.set_cons_succ]); refine growOp_go ?_; go_simp; first | exact ⟨Ext.refl _, rfl⟩ | exact rfl | (split; (exfalso; omega); (first | exact ⟨Ext.refl _, rfl⟩ | exact rfl)) | (split; (first | exact ⟨Ext.refl _, rfl⟩ | exact rfl); (exfalso; omega))))
            refine Chain.done ?_
            intro vs w5 hE5 hd5
            simp only [Act.put, SP.pick, SP.is, SP.box, id_eq, List.take_succ_cons, List.take_zero, List.drop_succ_cons, List.drop_zero, List.setIfInBounds_toArray, List.set_cons_zero, List.set_cons_succ]
            clear hd5
            have E5 := Lib.hid (Ext.trans E2.out hE5)
            clear hE5
            go_wp2_with fail
            go_ret
            exact ⟨by rw [HV2.out]; rfl, E5.out⟩
          · have hBn := Lib.hid (show ∀ k : Nat, k < kk + 1 → L[ki]? ≠ L[k]? by
              intro k hk
              by_cases hkk2 : k = kk
              · subst hkk2; rw [EE1.out, EE2.out]; simpa using huv
              · exact hB.out k (by omega))
            go_wp2_with fail
            refine wp_region_chain 9 (by kernel_rfl) (by kernel_rfl) ?_
            simp only [List.take_succ_cons, List.take_zero, List.drop_succ_cons, List.drop_zero]
            iterate 8 (apply Chain.quiet; · (intro vs wq hEq hd; obtain ⟨hcq, hfq⟩ := bcell hEq; clear hEq hd; (try simp only [Act.put, SP.pick, SP.is, SP.box, id_eq, List.take_succ_cons, List.take_zero, List.drop_succ_cons, List.drop_zero, List.setIfInBounds_toArray, List.set_cons_zero, List.set_cons_succ]); refine growOp_go ?_; go_simp; first | exact ⟨Ext.refl _, rfl⟩ | exact rfl | (split; (exfalso; omega); (first | exact ⟨Ext.refl _, rfl⟩ | exact rfl)) | (split; (first | exact ⟨Ext.refl _, rfl⟩ | exact rfl); (exfalso; omega))))
            refine Chain.quiet (V := .bool false) ?_ ?_
            · intro vs wq hEq hd
              clear hEq hd
              (try simp only [Act.put, SP.pick, SP.is, SP.box, id_eq, List.take_succ_cons, List.take_zero, List.drop_succ_cons, List.drop_zero, List.setIfInBounds_toArray, List.set_cons_zero, List.set_cons_succ])
              refine growOp_go ?_
              go_simp
              first | exact Ext.refl _ | exact ⟨Ext.refl _, rfl⟩ | exact ⟨Ext.refl _, huv⟩ | exact ⟨Ext.refl _, by simpa using huv⟩
            refine Chain.done ?_
            intro vs w5 hE5 hd5
            simp only [Act.put, SP.pick, SP.is, SP.box, id_eq, List.take_succ_cons, List.take_zero, List.drop_succ_cons, List.drop_zero, List.setIfInBounds_toArray, List.set_cons_zero, List.set_cons_succ]
            clear hd5
            have E5 := Lib.hid (Ext.trans hE2.out hE5)
            clear hE5
            go_wp2_with fail
            go_roundw
            case rel => exact ⟨kk + 1, by omega, by go_num, hBn, E5⟩
            case measure => simp [intOf]; omega
        · have hkk2 : kk = ki := by omega
          have hl2' : ¬ (kk : Int) < (ki : Int) := by omega
          have hAn := Lib.hid (show ∀ i k : Nat, k < i → i < ki + 1 → L[i]? ≠ L[k]? by
            intro i k h1 h2
            by_cases h3 : i = ki
            · subst h3; exact hB.out k (by omega)
            · exact hA.out i k h1 (by omega))
          clear hkk2
          go_wp2_with fail
          go_roundw
          case rel => exact ⟨ki + 1, by omega, by go_num, hAn, E2⟩
          case measure => simp [intOf]; omega
    · have hk4 : ki = 4 := by omega
      have hlt' : ¬ (ki : Int) < 4 := by omega
      have HV2 := Lib.hid (show V = true from HD.out.2 fun i k h1 h2 => hA.out i k h1 (by omega))
      clear hk4
      go_wp2_with fail
      go_ret
      exact ⟨by rw [HV2.out]; rfl, hE.out⟩
end Go.Proofs.Ytbllfbgabefagaa
