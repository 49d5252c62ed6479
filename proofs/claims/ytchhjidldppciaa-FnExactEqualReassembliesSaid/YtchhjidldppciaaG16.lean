/- The law on equal lists of reassemblies. -/
import Derived.Test.YtchhjidldppciaaEqL
namespace Go.Proofs.Ytchhjidldppciaa
open Go.RowKit
set_option linter.unusedVariables false
set_option linter.unusedSimpArgs false

theorem rea_ext {a b : Rea} (h1 : a.frm = b.frm) (h2 : a.sq = b.sq) (h3 : a.nx = b.nx) (h4 : a.st = b.st) (h5 : a.body = b.body) : a = b := by
  cases a; cases b; simp_all
set_option maxRecDepth 4000 in
set_option maxHeartbeats 8000000 in
theorem sEqRea (w : World) (A A' : Option Addr) (n n' c c' : Nat) (l l' : List Rea) (hn : l.length = n) (hn' : l'.length = n') (hM : Els w A 5 (kE kRea) l) (hM' : Els w A' 5 (kE kRea) l') (hb : ∀ m ∈ l, Byt m.body) (hb' : ∀ m ∈ l', Byt m.body) (hl : n ≤ 1048577) (hl' : n' ≤ 1048577) :
    Calls Try.prog 45 #[.slice A n c, .slice A' n' c'] w fun e w' => e = .returned (.bool (decide (l = l'))) ∧ Below w.heap.size w w' := by
  have hn1 := Lib.hid hn
  have hn2 := Lib.hid hn'
  have hb1 := Lib.hid hb
  have hb1' := Lib.hid hb'
  clear hb hb' hn hn'
  by_cases hlen : n = n'
  · subst hlen
    go_enter Try.func45, Try.ntmps45
    go_wp2
    go_loopw [5] (fun i wr => ∃ k : Nat, k ≤ n ∧ i = .int .i64 k ∧ Ext w wr ∧ Hid (l.take k = l'.take k)) (fun i _ => n - (intOf i).toNat)
    case atStart => exact ⟨0, Nat.zero_le _, rfl, Ext.refl _, Lib.hid rfl⟩
    case round =>
      obtain ⟨k, hk, rfl, hE, hI⟩ := hrel
      by_cases hkn : k < n
      · have hlt : k < l.length := by rw [hn1.out]; exact hkn
        have hlt' : k < l'.length := by rw [hn2.out]; exact hkn
        obtain ⟨b, off, rfl, hb, hc⟩ := (els_up hM hE).at_ (List.ne_nil_of_length_pos (by omega))
        obtain ⟨b', off', rfl, hb', hc'⟩ := (els_up hM' hE).at_ (List.ne_nil_of_length_pos (by omega))
        obtain ⟨B, cB, hRB, k0, k1, k2, k3, k4⟩ := els_rea hc k hlt
        obtain ⟨B', cB', hRB', m0, m1, m2, m3, m4⟩ := els_rea hc' k hlt'
        have p0 : (0 : Int) ≤ (k : Int) := by omega
        have p1 : (k : Int) < (n : Int) := by omega
        have y1 := Lib.hid (hb1.out _ (List.getElem_mem hlt))
        have y2 := Lib.hid (hb1'.out _ (List.getElem_mem hlt'))
        have R1 := Lib.hid hRB
        have R2 := Lib.hid hRB'
        have hne := Lib.hid (fun h => list_ne (l := l) (l' := l') hlt hlt' h)
        have hsm := Lib.hid (fun h => take_same (l := l) (l' := l') hlt hlt' hI.out h)
        clear hc hc' hM hM' hRB hRB' hI
        generalize l[k] = x at *
        generalize l'[k] = x' at *
        clear hlt hlt'
        obtain ⟨f1, s1, n1, t1, bd1⟩ := x
        obtain ⟨f2, s2, n2, t2, bd2⟩ := x'
        simp only at k0 k1 k2 k3 k4 m0 m1 m2 m3 m4 R1 R2 y1 y2
        by_cases h1 : f1 = f2
        · subst h1
          by_cases h2 : s1 = s2
          · subst h2
            by_cases h3 : n1 = n2
            · subst h3
              by_cases h4 : t1 = t2
              · subst h4
                by_cases h5 : bd1 = bd2
                · have hF := Lib.hid (hsm.out (by subst h5; rfl))
                  have h5' := Lib.hid (decide_eq_true h5)
                  clear h5
                  go_wp2_with fail
                  refine wp_region_chain 64 (by kernel_rfl) (by kernel_rfl) ?_
                  simp only [List.take_succ_cons, List.take_zero, List.drop_succ_cons, List.drop_zero]
                  repeat (apply Chain.quiet; · (intro vs wq hEq hd; obtain ⟨hcq, hfq⟩ := bcell hEq; clear hEq hd; (try simp only [Act.put, SP.pick, SP.is, SP.box, id_eq, List.take_succ_cons, List.take_zero, List.drop_succ_cons, List.drop_zero, List.setIfInBounds_toArray, List.set_cons_zero, List.set_cons_succ]); refine growOp_go ?_; go_simp; first | exact ⟨Ext.refl _, rfl⟩ | exact rfl))
                  apply Chain.quiet
                  · intro vs wq hEq hd
                    clear hd
                    (try simp only [Act.put, SP.pick, SP.is, SP.box, id_eq, List.take_succ_cons, List.take_zero, List.drop_succ_cons, List.drop_zero, List.setIfInBounds_toArray, List.set_cons_zero, List.set_cons_succ])
                    refine growOp_go ?_
                    go_simp
                    refine (sEqB _ _ _ _ _ _ bd1 bd2 rfl rfl y1.out y2.out _ (R1.out.ext hEq) (R2.out.ext hEq)).mono ?_
                    rintro e w7 ⟨rfl, rfl⟩
                    rw [h5'.out]
                    first | exact ⟨rfl, Ext.refl _⟩ | exact ⟨_, rfl, Ext.refl _, rfl⟩
                  repeat (apply Chain.quiet; · (intro vs wq hEq hd; obtain ⟨hcq, hfq⟩ := bcell hEq; clear hEq hd; (try simp only [Act.put, SP.pick, SP.is, SP.box, id_eq, List.take_succ_cons, List.take_zero, List.drop_succ_cons, List.drop_zero, List.setIfInBounds_toArray, List.set_cons_zero, List.set_cons_succ]); refine growOp_go ?_; go_simp; first | exact ⟨Ext.refl _, rfl⟩ | exact rfl))
                  refine Chain.done ?_
                  intro vs w8 hE8 hd8
                  simp only [Act.put, SP.pick, SP.is, SP.box, id_eq, List.take_succ_cons, List.take_zero, List.drop_succ_cons, List.drop_zero, List.setIfInBounds_toArray, List.set_cons_zero, List.set_cons_succ]
                  clear hd8
                  go_wp2
                  go_roundw
                  case rel => exact ⟨k + 1, by omega, by go_num, Ext.trans hE hE8, hF⟩
                  case measure => simp [intOf]; omega
                · have hF := Lib.hid (show decide (l = l') = false from hne.out (by intro h; injection h with _ _ _ _ h; exact h5 h))
                  have h5' := Lib.hid (decide_eq_false h5)
                  clear h5
                  go_wp2_with fail
                  refine wp_region_chain 64 (by kernel_rfl) (by kernel_rfl) ?_
                  simp only [List.take_succ_cons, List.take_zero, List.drop_succ_cons, List.drop_zero]
                  repeat (apply Chain.quiet; · (intro vs wq hEq hd; obtain ⟨hcq, hfq⟩ := bcell hEq; clear hEq hd; (try simp only [Act.put, SP.pick, SP.is, SP.box, id_eq, List.take_succ_cons, List.take_zero, List.drop_succ_cons, List.drop_zero, List.setIfInBounds_toArray, List.set_cons_zero, List.set_cons_succ]); refine growOp_go ?_; go_simp; first | exact ⟨Ext.refl _, rfl⟩ | exact rfl))
                  apply Chain.quiet
                  · intro vs wq hEq hd
                    clear hd
                    (try simp only [Act.put, SP.pick, SP.is, SP.box, id_eq, List.take_succ_cons, List.take_zero, List.drop_succ_cons, List.drop_zero, List.setIfInBounds_toArray, List.set_cons_zero, List.set_cons_succ])
                    refine growOp_go ?_
                    go_simp
                    refine (sEqB _ _ _ _ _ _ bd1 bd2 rfl rfl y1.out y2.out _ (R1.out.ext hEq) (R2.out.ext hEq)).mono ?_
                    rintro e w7 ⟨rfl, rfl⟩
                    rw [h5'.out]
                    first | exact ⟨rfl, Ext.refl _⟩ | exact ⟨_, rfl, Ext.refl _, rfl⟩
                  repeat (apply Chain.quiet; · (intro vs wq hEq hd; obtain ⟨hcq, hfq⟩ := bcell hEq; clear hEq hd; (try simp only [Act.put, SP.pick, SP.is, SP.box, id_eq, List.take_succ_cons, List.take_zero, List.drop_succ_cons, List.drop_zero, List.setIfInBounds_toArray, List.set_cons_zero, List.set_cons_succ]); refine growOp_go ?_; go_simp; first | exact ⟨Ext.refl _, rfl⟩ | exact rfl))
                  refine Chain.done ?_
                  intro vs w8 hE8 hd8
                  simp only [Act.put, SP.pick, SP.is, SP.box, id_eq, List.take_succ_cons, List.take_zero, List.drop_succ_cons, List.drop_zero, List.setIfInBounds_toArray, List.set_cons_zero, List.set_cons_succ]
                  clear hd8
                  go_wp2
                  go_ret
                  exact ⟨(by rw [hF.out]; first | done | rfl), Ext.trans hE hE8⟩
              · have hF := Lib.hid (show decide (l = l') = false from hne.out (by intro h; injection h; omega))
                clear y1 y2 R1 R2 k3 m3
                go_wp2_with fail
                refine wp_region_chain 64 (by kernel_rfl) (by kernel_rfl) ?_
                simp only [List.take_succ_cons, List.take_zero, List.drop_succ_cons, List.drop_zero]
                repeat (apply Chain.quiet; · (intro vs wq hEq hd; obtain ⟨hcq, hfq⟩ := bcell hEq; clear hEq hd; (try simp only [Act.put, SP.pick, SP.is, SP.box, id_eq, List.take_succ_cons, List.take_zero, List.drop_succ_cons, List.drop_zero, List.setIfInBounds_toArray, List.set_cons_zero, List.set_cons_succ]); refine growOp_go ?_; go_simp; first | exact ⟨Ext.refl _, rfl⟩ | exact rfl))
                refine Chain.done ?_
                intro vs w8 hE8 hd8
                simp only [Act.put, SP.pick, SP.is, SP.box, id_eq, List.take_succ_cons, List.take_zero, List.drop_succ_cons, List.drop_zero, List.setIfInBounds_toArray, List.set_cons_zero, List.set_cons_succ]
                clear hd8
                go_wp2
                go_ret
                exact ⟨(by rw [hF.out]; first | done | rfl), Ext.trans hE hE8⟩
            · have hF := Lib.hid (show decide (l = l') = false from hne.out (by intro h; injection h; omega))
              clear y1 y2 R1 R2 k3 k4 m3 m4
              go_wp2_with fail
              refine wp_region_chain 64 (by kernel_rfl) (by kernel_rfl) ?_
              simp only [List.take_succ_cons, List.take_zero, List.drop_succ_cons, List.drop_zero]
              repeat (apply Chain.quiet; · (intro vs wq hEq hd; obtain ⟨hcq, hfq⟩ := bcell hEq; clear hEq hd; (try simp only [Act.put, SP.pick, SP.is, SP.box, id_eq, List.take_succ_cons, List.take_zero, List.drop_succ_cons, List.drop_zero, List.setIfInBounds_toArray, List.set_cons_zero, List.set_cons_succ]); refine growOp_go ?_; go_simp; first | exact ⟨Ext.refl _, rfl⟩ | exact rfl))
              refine Chain.done ?_
              intro vs w8 hE8 hd8
              simp only [Act.put, SP.pick, SP.is, SP.box, id_eq, List.take_succ_cons, List.take_zero, List.drop_succ_cons, List.drop_zero, List.setIfInBounds_toArray, List.set_cons_zero, List.set_cons_succ]
              clear hd8
              go_wp2
              go_ret
              exact ⟨(by rw [hF.out]; first | done | rfl), Ext.trans hE hE8⟩
          · have hF := Lib.hid (show decide (l = l') = false from hne.out (by intro h; injection h; omega))
            clear y1 y2 R1 R2 k2 k3 k4 m2 m3 m4
            go_wp2_with fail
            refine wp_region_chain 64 (by kernel_rfl) (by kernel_rfl) ?_
            simp only [List.take_succ_cons, List.take_zero, List.drop_succ_cons, List.drop_zero]
            repeat (apply Chain.quiet; · (intro vs wq hEq hd; obtain ⟨hcq, hfq⟩ := bcell hEq; clear hEq hd; (try simp only [Act.put, SP.pick, SP.is, SP.box, id_eq, List.take_succ_cons, List.take_zero, List.drop_succ_cons, List.drop_zero, List.setIfInBounds_toArray, List.set_cons_zero, List.set_cons_succ]); refine growOp_go ?_; go_simp; first | exact ⟨Ext.refl _, rfl⟩ | exact rfl))
            refine Chain.done ?_
            intro vs w8 hE8 hd8
            simp only [Act.put, SP.pick, SP.is, SP.box, id_eq, List.take_succ_cons, List.take_zero, List.drop_succ_cons, List.drop_zero, List.setIfInBounds_toArray, List.set_cons_zero, List.set_cons_succ]
            clear hd8
            go_wp2
            go_ret
            exact ⟨(by rw [hF.out]; first | done | rfl), Ext.trans hE hE8⟩
        · have hF := Lib.hid (show decide (l = l') = false from hne.out (by intro h; injection h; omega))
          clear y1 y2 R1 R2 k1 k2 k3 k4 m1 m2 m3 m4
          go_wp2_with fail
          refine wp_region_chain 64 (by kernel_rfl) (by kernel_rfl) ?_
          simp only [List.take_succ_cons, List.take_zero, List.drop_succ_cons, List.drop_zero]
          repeat (apply Chain.quiet; · (intro vs wq hEq hd; obtain ⟨hcq, hfq⟩ := bcell hEq; clear hEq hd; (try simp only [Act.put, SP.pick, SP.is, SP.box, id_eq, List.take_succ_cons, List.take_zero, List.drop_succ_cons, List.drop_zero, List.setIfInBounds_toArray, List.set_cons_zero, List.set_cons_succ]); refine growOp_go ?_; go_simp; first | exact ⟨Ext.refl _, rfl⟩ | exact rfl))
          refine Chain.done ?_
          intro vs w8 hE8 hd8
          simp only [Act.put, SP.pick, SP.is, SP.box, id_eq, List.take_succ_cons, List.take_zero, List.drop_succ_cons, List.drop_zero, List.setIfInBounds_toArray, List.set_cons_zero, List.set_cons_succ]
          clear hd8
          go_wp2
          go_ret
          exact ⟨(by rw [hF.out]; first | done | rfl), Ext.trans hE hE8⟩
      · obtain rfl : k = n := by omega
        have hF := Lib.hid (show decide (l = l') = true by
          apply decide_eq_true
          have := hI.out
          rwa [List.take_of_length_le (by have := hn1.out; omega), List.take_of_length_le (by have := hn2.out; omega)] at this)
        clear hM hM'
        go_wp2
        go_ret
        exact ⟨(by rw [hF.out]; first | done | rfl), hE⟩
  · have hlen2 : ¬ (n : Int) = (n' : Int) := by omega
    have hF := Lib.hid (show decide (l = l') = false from decide_eq_false (fun he => hlen (by rw [← hn1.out, ← hn2.out, he])))
    clear hM hM'
    go_enter Try.func45, Try.ntmps45
    go_wp2
    go_ret
    exact ⟨(by rw [hF.out]; first | done | rfl), Ext.refl _⟩
end Go.Proofs.Ytchhjidldppciaa
