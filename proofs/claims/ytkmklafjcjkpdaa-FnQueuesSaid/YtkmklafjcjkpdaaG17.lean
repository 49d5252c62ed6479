/- The law on equal transmit queues. -/
import Derived.Test.YtkmklafjcjkpdaaEqL
namespace Go.Proofs.Ytkmklafjcjkpdaa
open Go.RowKit
set_option linter.unusedVariables false
set_option linter.unusedSimpArgs false
set_option maxHeartbeats 4000000 in
theorem iEqQ (w : World) (A A' : Option Addr) (n n' c c' : Nat) (d d' : Int) (l l' : List Msg) (hn : l.length = n) (hn' : l'.length = n') (hM : Els w A 4 (kE kMsg) l) (hM' : Els w A' 4 (kE kMsg) l') (hb : ∀ m ∈ l, Byt m.body) (hb' : ∀ m ∈ l', Byt m.body) (hl : n ≤ 1048577) (hl' : n' ≤ 1048577) :
    Calls Try.prog 77 #[.agg #[.slice A n c, .int .i64 d], .agg #[.slice A' n' c', .int .i64 d']] w fun e w' => e = .returned (.bool (decide (d = d') && decide (l = l'))) ∧ Below w.heap.size w w' := by
  have hn1 := Lib.hid hn
  have hn2 := Lib.hid hn'
  clear hn hn'
  have hb1 := Lib.hid hb
  have hb1' := Lib.hid hb'
  have hM1 := els_up hM (Ext.trans (Ext.alloc_ w (.cells #[.slice A n c, .int .i64 d] 55)) (Ext.alloc_ _ (.cells #[.slice A' n' c', .int .i64 d'] 55)))
  have hM2 := els_up hM' (Ext.trans (Ext.alloc_ w (.cells #[.slice A n c, .int .i64 d] 55)) (Ext.alloc_ _ (.cells #[.slice A' n' c', .int .i64 d'] 55)))
  clear hb hb' hM hM'
  by_cases hd : d = d'
  · by_cases hlen : n = n'
    · subst hlen
      subst hd
      go_enter Try.func77, Try.ntmps77
      go_wp2
      go_loopw [23] (fun i wr => ∃ k : Nat, k ≤ n ∧ i = .int .i64 k ∧ Ext ((w.alloc (.cells #[.slice A n c, .int .i64 d] 55)).alloc (.cells #[.slice A' n c', .int .i64 d] 55)) wr ∧ Hid (l.take k = l'.take k)) (fun i _ => n - (intOf i).toNat)
      case atStart => exact ⟨0, Nat.zero_le _, rfl, Ext.refl _, Lib.hid rfl⟩
      case round =>
        obtain ⟨k, hk, rfl, hE, hI⟩ := hrel
        obtain ⟨x1, x2, x3⟩ := blk_cells (ext_blk hE (ext_blk (Ext.alloc_ _ _) (new_blk1 w _ _)))
        obtain ⟨v1, v2, v3⟩ := blk_cells (ext_blk hE (new_blk2 w _ _ _))
        by_cases hkn : k < n
        · have hlt : k < l.length := by rw [hn1.out]; exact hkn
          have hlt' : k < l'.length := by rw [hn2.out]; exact hkn
          obtain ⟨b, off, rfl, hb, hc⟩ := (els_up hM1 hE).at_ (List.ne_nil_of_length_pos (by omega))
          obtain ⟨b', off', rfl, hb', hc'⟩ := (els_up hM2 hE).at_ (List.ne_nil_of_length_pos (by omega))
          obtain ⟨B, cB, hRB, k0, k1, k2, k3⟩ := els_msg hc k hlt
          obtain ⟨B', cB', hRB', m0, m1, m2, m3⟩ := els_msg hc' k hlt'
          have p0 : (0 : Int) ≤ (k : Int) := by omega
          have p1 : (k : Int) < (n : Int) := by omega
          have y1 := Lib.hid (hb1.out _ (List.getElem_mem hlt))
          have y2 := Lib.hid (hb1'.out _ (List.getElem_mem hlt'))
          have R1 := Lib.hid hRB
          have R2 := Lib.hid hRB'
          have hne := Lib.hid (fun h => list_ne (l := l) (l' := l') hlt hlt' h)
          have hsm := Lib.hid (fun h => take_same (l := l) (l' := l') hlt hlt' hI.out h)
          clear hc hc' hM1 hM2 hRB hRB' hI
          generalize l[k] = x at *
          generalize l'[k] = x' at *
          clear hlt hlt'
          obtain ⟨f1, s1, n1, bd1⟩ := x
          obtain ⟨f2, s2, n2, bd2⟩ := x'
          simp only at k0 k1 k2 k3 m0 m1 m2 m3 R1 R2 y1 y2
          by_cases h5 : (⟨f1, s1, n1, bd1⟩ : Msg) = ⟨f2, s2, n2, bd2⟩
          · have hF := Lib.hid (hsm.out h5)
            have h5' := Lib.hid (decide_eq_true h5)
            clear h5
            go_wp2_with fail
            refine wp_region_chain 12 (by kernel_rfl) (by kernel_rfl) ?_
            simp only [List.take_succ_cons, List.take_zero, List.drop_succ_cons, List.drop_zero]
            repeat (apply Chain.quiet; · (intro vs wq hEq hd; obtain ⟨hcq, hfq⟩ := bcell hEq; clear hEq hd; (try simp only [Act.put, SP.pick, SP.is, SP.box, id_eq, List.take_succ_cons, List.take_zero, List.drop_succ_cons, List.drop_zero, List.setIfInBounds_toArray, List.set_cons_zero, List.set_cons_succ]); refine growOp_go ?_; go_simp; exact ⟨Ext.refl _, rfl⟩))
            apply Chain.quiet
            · intro vs wq hEq hd
              clear hd
              (try simp only [Act.put, SP.pick, SP.is, SP.box, id_eq, List.take_succ_cons, List.take_zero, List.drop_succ_cons, List.drop_zero, List.setIfInBounds_toArray, List.set_cons_zero, List.set_cons_succ])
              refine growOp_go ?_
              go_simp
              refine (iEqMsg _ _ _ _ _ _ _ _ _ _ _ _ _ bd1 bd2 rfl rfl (R1.out.ext hEq) (R2.out.ext hEq) (by have := y1.out.1; unfold maxLen at this; omega) (by have := y2.out.1; unfold maxLen at this; omega)).mono ?_
              rintro e w7 ⟨rfl, hb7⟩
              rw [h5'.out]
              first | exact ⟨rfl, hb7⟩ | exact ⟨_, rfl, hb7, rfl⟩
            repeat (apply Chain.quiet; · (intro vs wq hEq hd; obtain ⟨hcq, hfq⟩ := bcell hEq; clear hEq hd; (try simp only [Act.put, SP.pick, SP.is, SP.box, id_eq, List.take_succ_cons, List.take_zero, List.drop_succ_cons, List.drop_zero, List.setIfInBounds_toArray, List.set_cons_zero, List.set_cons_succ]); refine growOp_go ?_; go_simp; exact ⟨Ext.refl _, rfl⟩))
            refine Chain.done ?_
            intro vs w8 hE8 hd8
            simp only [Act.put, SP.pick, SP.is, SP.box, id_eq, List.take_succ_cons, List.take_zero, List.drop_succ_cons, List.drop_zero, List.setIfInBounds_toArray, List.set_cons_zero, List.set_cons_succ]
            clear hd8
            go_wp2
            go_roundw
            case rel => exact ⟨k + 1, by omega, by go_num, Ext.trans hE hE8, hF⟩
            case measure => simp [intOf]; omega
          · have hF := Lib.hid (show decide (l = l') = false from hne.out h5)
            have h5' := Lib.hid (decide_eq_false h5)
            clear h5
            go_wp2_with fail
            refine wp_region_chain 12 (by kernel_rfl) (by kernel_rfl) ?_
            simp only [List.take_succ_cons, List.take_zero, List.drop_succ_cons, List.drop_zero]
            repeat (apply Chain.quiet; · (intro vs wq hEq hd; obtain ⟨hcq, hfq⟩ := bcell hEq; clear hEq hd; (try simp only [Act.put, SP.pick, SP.is, SP.box, id_eq, List.take_succ_cons, List.take_zero, List.drop_succ_cons, List.drop_zero, List.setIfInBounds_toArray, List.set_cons_zero, List.set_cons_succ]); refine growOp_go ?_; go_simp; exact ⟨Ext.refl _, rfl⟩))
            apply Chain.quiet
            · intro vs wq hEq hd
              clear hd
              (try simp only [Act.put, SP.pick, SP.is, SP.box, id_eq, List.take_succ_cons, List.take_zero, List.drop_succ_cons, List.drop_zero, List.setIfInBounds_toArray, List.set_cons_zero, List.set_cons_succ])
              refine growOp_go ?_
              go_simp
              refine (iEqMsg _ _ _ _ _ _ _ _ _ _ _ _ _ bd1 bd2 rfl rfl (R1.out.ext hEq) (R2.out.ext hEq) (by have := y1.out.1; unfold maxLen at this; omega) (by have := y2.out.1; unfold maxLen at this; omega)).mono ?_
              rintro e w7 ⟨rfl, hb7⟩
              rw [h5'.out]
              first | exact ⟨rfl, hb7⟩ | exact ⟨_, rfl, hb7, rfl⟩
            repeat (apply Chain.quiet; · (intro vs wq hEq hd; obtain ⟨hcq, hfq⟩ := bcell hEq; clear hEq hd; (try simp only [Act.put, SP.pick, SP.is, SP.box, id_eq, List.take_succ_cons, List.take_zero, List.drop_succ_cons, List.drop_zero, List.setIfInBounds_toArray, List.set_cons_zero, List.set_cons_succ]); refine growOp_go ?_; go_simp; exact ⟨Ext.refl _, rfl⟩))
            refine Chain.done ?_
            intro vs w8 hE8 hd8
            simp only [Act.put, SP.pick, SP.is, SP.box, id_eq, List.take_succ_cons, List.take_zero, List.drop_succ_cons, List.drop_zero, List.setIfInBounds_toArray, List.set_cons_zero, List.set_cons_succ]
            clear hd8
            go_wp2
            go_ret
            exact ⟨(by first | done | rfl | (rw [hF.out]; first | done | rfl) | simp [hF.out]), Ext.trans (Ext.trans (Ext.alloc_ _ _) (Ext.alloc_ _ _)) (Ext.trans hE hE8)⟩
        · obtain rfl : k = n := by omega
          have hF := Lib.hid (show decide (l = l') = true by
            apply decide_eq_true
            have := hI.out
            rwa [List.take_of_length_le (by have := hn1.out; omega), List.take_of_length_le (by have := hn2.out; omega)] at this)
          clear hM1 hM2
          go_wp2
          go_ret
          exact ⟨(by first | done | rfl | (rw [hF.out]; first | done | rfl) | simp [hF.out]), by first | exact Ext.trans (Ext.alloc_ _ _) (Ext.alloc_ _ _) | exact Ext.trans (Ext.trans (Ext.alloc_ _ _) (Ext.alloc_ _ _)) hE | exact Ext.trans (Ext.trans (Ext.alloc_ _ _) (Ext.alloc_ _ _)) (Ext.trans hE (Ext.trans (Ext.alloc_ _ _) (Ext.alloc_ _ _)))⟩
    · subst hd
      have hlen2 : ¬ (n : Int) = (n' : Int) := by omega
      have hF := Lib.hid (show decide (l = l') = false from decide_eq_false (fun he => hlen (by rw [← hn1.out, ← hn2.out, he])))
      clear hM1 hM2
      go_enter Try.func77, Try.ntmps77
      go_wp2
      go_ret
      exact ⟨(by first | done | rfl | (rw [hF.out]; first | done | rfl) | simp [hF.out]), by first | exact Ext.trans (Ext.alloc_ _ _) (Ext.alloc_ _ _) | exact Ext.trans (Ext.trans (Ext.alloc_ _ _) (Ext.alloc_ _ _)) hE | exact Ext.trans (Ext.trans (Ext.alloc_ _ _) (Ext.alloc_ _ _)) (Ext.trans hE (Ext.trans (Ext.alloc_ _ _) (Ext.alloc_ _ _)))⟩
  · have hF := Lib.hid (show (decide (d = d') && decide (l = l')) = false by rw [decide_eq_false hd]; rfl)
    clear hM1 hM2
    go_enter Try.func77, Try.ntmps77
    go_wp2
    go_ret
    exact ⟨(by first | done | rfl | (rw [hF.out]; first | done | rfl) | simp [hF.out]), by first | exact Ext.trans (Ext.alloc_ _ _) (Ext.alloc_ _ _) | exact Ext.trans (Ext.trans (Ext.alloc_ _ _) (Ext.alloc_ _ _)) hE | exact Ext.trans (Ext.trans (Ext.alloc_ _ _) (Ext.alloc_ _ _)) (Ext.trans hE (Ext.trans (Ext.alloc_ _ _) (Ext.alloc_ _ _)))⟩
end Go.Proofs.Ytkmklafjcjkpdaa
