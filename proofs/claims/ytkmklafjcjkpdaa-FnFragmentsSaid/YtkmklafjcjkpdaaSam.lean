/- The laws' own comparisons: bytes, messages, lists of messages that are the same. -/
import Derived.Test.YtkmklafjcjkpdaaCur
import Derived.Test.YtkmklafjcjkpdaaTq
namespace Go.Proofs.Ytkmklafjcjkpdaa
open Go.RowKit
set_option linter.unusedVariables false
set_option linter.unusedSimpArgs false
theorem sameB_ (w : World) (A A' : Option Addr) (n c c' : Nat) (l : List Int) (hn : l.length = n) (h : RB w A c l) (h' : RB w A' c' l) (hl : n ≤ 1048576) :
    Calls Try.prog 86 #[.slice A n c, .slice A' n c'] w fun e w' => e = .returned (.bool true) ∧ Ext w w' := by
  have H1 := Lib.hid h
  have H2 := Lib.hid h'
  have HN := Lib.hid hn
  clear h h' hn
  go_enter Try.func86, Try.ntmps86
  go_wp2_with fail
  go_loopw [5] (fun i wr => ∃ k : Nat, k ≤ n ∧ i = .int .i64 k ∧ Hid (Ext w wr)) (fun i _ => n - (intOf i).toNat)
  case atStart => exact ⟨0, Nat.zero_le _, rfl, Lib.hid (Ext.refl _)⟩
  case round =>
    obtain ⟨k, hk, rfl, hE⟩ := hrel
    by_cases hlt : k < n
    · have hkl : k < l.length := by rw [HN.out]; exact hlt
      obtain ⟨b1, o1, rfl, h5, h6⟩ := (H1.out.ext hE.out).at_ hkl
      obtain ⟨b2, o2, rfl, h7, h8⟩ := (H2.out.ext hE.out).at_ hkl
      generalize l[k] = z at *
      have hlt' : (k : Int) < (n : Int) := by omega
      have hk0 : (0 : Int) ≤ (k : Int) := by omega
      go_wp2_with fail
      refine wp_region_chain 9 (by kernel_rfl) (by kernel_rfl) ?_
      simp only [List.take_succ_cons, List.take_zero, List.drop_succ_cons, List.drop_zero]
      repeat (apply Chain.quiet; · (intro vs wq hEq hd; obtain ⟨hcq, hfq⟩ := bcell hEq; clear hEq hd; (try simp only [Act.put, SP.pick, SP.is, SP.box, id_eq, List.take_succ_cons, List.take_zero, List.drop_succ_cons, List.drop_zero, List.setIfInBounds_toArray, List.set_cons_zero, List.set_cons_succ]); refine growOp_go ?_; go_simp; first | exact ⟨Ext.refl _, rfl⟩ | exact rfl | (split; (exfalso; omega); (first | exact ⟨Ext.refl _, rfl⟩ | exact rfl)) | (split; (first | exact ⟨Ext.refl _, rfl⟩ | exact rfl); (exfalso; omega))))
      refine Chain.done ?_
      intro vs w4 hE4 hd4
      simp only [Act.put, SP.pick, SP.is, SP.box, id_eq, List.take_succ_cons, List.take_zero, List.drop_succ_cons, List.drop_zero, List.setIfInBounds_toArray, List.set_cons_zero, List.set_cons_succ]
      clear hd4
      have E4 := Lib.hid (Ext.trans hE.out hE4)
      clear hE4
      go_wp2_with fail
      go_roundw
      case rel => exact ⟨k + 1, by omega, by go_num, E4⟩
      case measure => simp [intOf]; omega
    · obtain rfl : k = n := by omega
      go_wp2_with fail
      go_ret
      exact ⟨rfl, hE.out⟩
theorem sameM_ (w : World) (ta ct dl : Int) (A A' : Option Addr) (n c c' : Nat) (l : List Int) (hn : l.length = n) (h : RB w A c l) (h' : RB w A' c' l) (hl : n ≤ 1048576) :
    Calls Try.prog 43 #[.agg #[.int .i64 ta, .int .i64 ct, .int .i64 dl, .slice A n c], .agg #[.int .i64 ta, .int .i64 ct, .int .i64 dl, .slice A' n c']] w fun e w' => e = .returned (.bool true) ∧ Ext w w' := by
  have e2 := Ext.trans (Ext.alloc_ w (.cells #[.int .i64 ta, .int .i64 ct, .int .i64 dl, .slice A n c] 59)) (Ext.alloc_ _ (.cells #[.int .i64 ta, .int .i64 ct, .int .i64 dl, .slice A' n c'] 59))
  have H1 := Lib.hid (h.ext e2)
  have H2 := Lib.hid (h'.ext e2)
  have E2 := Lib.hid e2
  clear h h' e2
  go_enter Try.func43, Try.ntmps43
  go_wp2_with fail
  refine (sameB_ _ _ _ _ _ _ l hn H1.out H2.out hl).mono ?_
  rintro e w3 ⟨rfl, h3⟩
  have E3 := Lib.hid (Ext.trans E2.out h3)
  clear h3
  go_wp2_with fail
  go_ret
  exact ⟨rfl, E3.out⟩
theorem sameMs_ (w : World) (A A' : Option Addr) (n c c' : Nat) (l : List Msg) (hn : l.length = n) (h : Els w A 4 (kE kMsg) l) (h' : Els w A' 4 (kE kMsg) l) (hb : ∀ m ∈ l, m.body.length ≤ 1048576) (hl : n ≤ 1048576) :
    Calls Try.prog 79 #[.slice A n c, .slice A' n c'] w fun e w' => e = .returned (.bool true) ∧ Ext w w' := by
  have H1 := Lib.hid h
  have H2 := Lib.hid h'
  have HN := Lib.hid hn
  have HB := Lib.hid hb
  clear h h' hn hb
  go_enter Try.func79, Try.ntmps79
  go_wp2_with fail
  go_loopw [5] (fun i wr => ∃ k : Nat, k ≤ n ∧ i = .int .i64 k ∧ Hid (Ext w wr)) (fun i _ => n - (intOf i).toNat)
  case atStart => exact ⟨0, Nat.zero_le _, rfl, Lib.hid (Ext.refl _)⟩
  case round =>
    obtain ⟨k, hk, rfl, hE⟩ := hrel
    by_cases hlt : k < n
    · have hkl : k < l.length := by rw [HN.out]; exact hlt
      have hbl := HB.out _ (List.getElem_mem hkl)
      obtain ⟨b1, o1, rfl, h5, h6⟩ := (els_up H1.out hE.out).at_ (List.ne_nil_of_length_pos (by omega))
      obtain ⟨b2, o2, rfl, h7, h8⟩ := (els_up H2.out hE.out).at_ (List.ne_nil_of_length_pos (by omega))
      obtain ⟨B1, cB1, hR1, k0, k1, k2, k3⟩ := els_msg h6 k hkl
      obtain ⟨B2, cB2, hR2, m0, m1, m2, m3⟩ := els_msg h8 k hkl
      have R1 := Lib.hid hR1
      have R2 := Lib.hid hR2
      clear h6 h8 hR1 hR2
      generalize l[k] = z at *
      have hlt' : (k : Int) < (n : Int) := by omega
      have hk0 : (0 : Int) ≤ (k : Int) := by omega
      go_wp2_with fail
      refine wp_region_chain 10 (by kernel_rfl) (by kernel_rfl) ?_
      simp only [List.take_succ_cons, List.take_zero, List.drop_succ_cons, List.drop_zero]
      repeat (first | (apply Chain.quiet; · (intro vs wq hEq hd; obtain ⟨hcq, hfq⟩ := bcell hEq; clear hEq hd; (try simp only [Act.put, SP.pick, SP.is, SP.box, id_eq, List.take_succ_cons, List.take_zero, List.drop_succ_cons, List.drop_zero, List.setIfInBounds_toArray, List.set_cons_zero, List.set_cons_succ]); refine growOp_go ?_; go_simp; first | exact ⟨Ext.refl _, rfl⟩ | exact rfl | (split; (exfalso; omega); (first | exact ⟨Ext.refl _, rfl⟩ | exact rfl)) | (split; (first | exact ⟨Ext.refl _, rfl⟩ | exact rfl); (exfalso; omega)))) | (apply Chain.quiet; · (intro vs wq hEq hd; have hR1 := Lib.hid (R1.out.ext hEq); have hR2 := Lib.hid (R2.out.ext hEq); clear hEq hd; (try simp only [Act.put, SP.pick, SP.is, SP.box, id_eq, List.take_succ_cons, List.take_zero, List.drop_succ_cons, List.drop_zero, List.setIfInBounds_toArray, List.set_cons_zero, List.set_cons_succ]); refine growOp_go ?_; go_simp; refine (sameM_ _ _ _ _ _ _ _ _ _ _ rfl hR1.out hR2.out hbl).mono ?_; rintro e w5 ⟨rfl, hb⟩; first | exact ⟨rfl, hb⟩ | exact ⟨_, rfl, hb, rfl⟩)))
      refine Chain.done ?_
      intro vs w4 hE4 hd4
      simp only [Act.put, SP.pick, SP.is, SP.box, id_eq, List.take_succ_cons, List.take_zero, List.drop_succ_cons, List.drop_zero, List.setIfInBounds_toArray, List.set_cons_zero, List.set_cons_succ]
      clear hd4
      have E4 := Lib.hid (Ext.trans hE.out hE4)
      clear hE4
      go_wp2_with fail
      go_roundw
      case rel => exact ⟨k + 1, by omega, by go_num, E4⟩
      case measure => simp [intOf]; omega
    · obtain rfl : k = n := by omega
      go_wp2_with fail
      go_ret
      exact ⟨rfl, hE.out⟩
end Go.Proofs.Ytkmklafjcjkpdaa
