/- The law on equal lists of reassemblies: the program's side and the walk. -/
import Derived.Test.YtkmklafjcjkpdaaG16
namespace Go.Proofs.Ytkmklafjcjkpdaa
open Go.RowKit
set_option linter.unusedVariables false
set_option linter.unusedSimpArgs false
set_option maxRecDepth 4000 in
set_option maxHeartbeats 4000000 in
theorem iEqRea (w : World) (A A' : Option Addr) (n n' c c' : Nat) (l l' : List Rea) (hn : l.length = n) (hn' : l'.length = n') (hM : Els w A 5 (kE kRea) l) (hM' : Els w A' 5 (kE kRea) l') (hb : ∀ m ∈ l, Byt m.body) (hb' : ∀ m ∈ l', Byt m.body) (hl : n ≤ 1048577) (hl' : n' ≤ 1048577) :
    Calls Try.prog 87 #[.slice A n c, .slice A' n' c'] w fun e w' => e = .returned (.bool (decide (l = l'))) ∧ Below w.heap.size w w' := by
  have hn1 := Lib.hid hn
  have hn2 := Lib.hid hn'
  have hb1 := Lib.hid hb
  have hb1' := Lib.hid hb'
  clear hb hb' hn hn'
  by_cases hlen : n = n'
  · subst hlen
    go_enter Try.func87, Try.ntmps87
    go_wp2
    go_loopw [15] (fun i wr => ∃ k : Nat, k ≤ n ∧ i = .int .i64 k ∧ Ext w wr ∧ Hid (l.take k = l'.take k)) (fun i _ => n - (intOf i).toNat)
    case atStart => exact ⟨0, Nat.zero_le _, rfl, Ext.refl _, Lib.hid rfl⟩
    case round =>
      obtain ⟨k, hk, rfl, hE, hI⟩ := hrel
      by_cases hkn : k < n
      · have hlt : k < l.length := by rw [hn1.out]; exact hkn
        have hlt' : k < l'.length := by rw [hn2.out]; exact hkn
        obtain ⟨b, off, rfl, hb, hc⟩ := (els_up hM hE).at_ (List.ne_nil_of_length_pos (by omega))
        obtain ⟨b', off', rfl, hb', hc'⟩ := (els_up hM' hE).at_ (List.ne_nil_of_length_pos (by omega))
        obtain ⟨B, cB, hRB, k0, k1, k2, k3, k4⟩ := els_rea hc k hlt
        obtain ⟨B', cB', hRB', m0, m1, m2, m3, m4⟩ := els_rea hc' k hlt'
        have p0 : (0 : Int) ≤ (k : Int) := by omega
        have p1 : (k : Int) < (n : Int) := by omega
        have y1 := Lib.hid (hb1.out _ (List.getElem_mem hlt))
        have y2 := Lib.hid (hb1'.out _ (List.getElem_mem hlt'))
        have R1 := Lib.hid hRB
        have R2 := Lib.hid hRB'
        have hne := Lib.hid (fun h => list_ne (l := l) (l' := l') hlt hlt' h)
        have hsm := Lib.hid (fun h => take_same (l := l) (l' := l') hlt hlt' hI.out h)
        clear hc hc' hM hM' hRB hRB' hI
        generalize l[k] = x at *
        generalize l'[k] = x' at *
        clear hlt hlt'
        obtain ⟨f1, s1, n1, t1, bd1⟩ := x
        obtain ⟨f2, s2, n2, t2, bd2⟩ := x'
        simp only at k0 k1 k2 k3 k4 m0 m1 m2 m3 m4 R1 R2 y1 y2
        go_wp2_with fail
        go_region
        all_goals
          by_cases h1 : f1 = f2
          · subst h1
            by_cases h2 : s1 = s2
            · subst h2
              by_cases h3 : n1 = n2
              · subst h3
                by_cases h4 : t1 = t2
                · subst h4
                  by_cases h5 : bd1 = bd2
                  · have hF := Lib.hid (hsm.out (by subst h5; rfl))
                    have h5' := Lib.hid (decide_eq_true h5)
                    clear h5
                    go_wp2_with fail
                    refine (iEqB _ _ _ _ _ _ bd1 bd2 rfl rfl _ (R1.out.ext (Ext.drew (Ext.trans (Ext.alloc_ _ _) (Ext.alloc_ _ _)))) (R2.out.ext (Ext.drew (Ext.trans (Ext.alloc_ _ _) (Ext.alloc_ _ _)))) (by have := y1.out.1; unfold maxLen at this; omega) (by have := y2.out.1; unfold maxLen at this; omega)).mono ?_
                    rintro e w2 ⟨rfl, hb2⟩
                    rw [h5'.out]
                    have hb2' := Lib.hid hb2
                    clear hb2
                    go_wp2
                    go_roundw
                    case rel => exact ⟨k + 1, by omega, by go_num, Ext.trans hE (Ext.trans (Ext.drew (Ext.trans (Ext.alloc_ _ _) (Ext.alloc_ _ _))) hb2'.out), hF⟩
                    case measure => simp [intOf]; omega
                  · have hF := Lib.hid (show decide (l = l') = false from hne.out (by intro h; injection h with _ _ _ _ h; exact h5 h))
                    have h5' := Lib.hid (decide_eq_false h5)
                    clear h5
                    go_wp2_with fail
                    refine (iEqB _ _ _ _ _ _ bd1 bd2 rfl rfl _ (R1.out.ext (Ext.drew (Ext.trans (Ext.alloc_ _ _) (Ext.alloc_ _ _)))) (R2.out.ext (Ext.drew (Ext.trans (Ext.alloc_ _ _) (Ext.alloc_ _ _)))) (by have := y1.out.1; unfold maxLen at this; omega) (by have := y2.out.1; unfold maxLen at this; omega)).mono ?_
                    rintro e w2 ⟨rfl, hb2⟩
                    rw [h5'.out]
                    have hb2' := Lib.hid hb2
                    clear hb2
                    go_wp2
                    go_ret
                    exact ⟨(by rw [hF.out]; first | done | rfl), Ext.trans hE (Ext.trans (Ext.drew (Ext.trans (Ext.alloc_ _ _) (Ext.alloc_ _ _))) hb2'.out)⟩
                · have hF := Lib.hid (show decide (l = l') = false from hne.out (by intro h; injection h; omega))
                  go_wp2
                  go_ret
                  exact ⟨(by rw [hF.out]; first | done | rfl), Ext.trans hE (Ext.drew (Ext.trans (Ext.alloc_ _ _) (Ext.alloc_ _ _)))⟩
              · have hF := Lib.hid (show decide (l = l') = false from hne.out (by intro h; injection h; omega))
                go_wp2
                go_ret
                exact ⟨(by rw [hF.out]; first | done | rfl), Ext.trans hE (Ext.drew (Ext.trans (Ext.alloc_ _ _) (Ext.alloc_ _ _)))⟩
            · have hF := Lib.hid (show decide (l = l') = false from hne.out (by intro h; injection h; omega))
              go_wp2
              go_ret
              exact ⟨(by rw [hF.out]; first | done | rfl), Ext.trans hE (Ext.drew (Ext.trans (Ext.alloc_ _ _) (Ext.alloc_ _ _)))⟩
          · have hF := Lib.hid (show decide (l = l') = false from hne.out (by intro h; injection h; omega))
            go_wp2
            go_ret
            exact ⟨(by rw [hF.out]; first | done | rfl), Ext.trans hE (Ext.drew (Ext.trans (Ext.alloc_ _ _) (Ext.alloc_ _ _)))⟩
      · obtain rfl : k = n := by omega
        have hF := Lib.hid (show decide (l = l') = true by
          apply decide_eq_true
          have := hI.out
          rwa [List.take_of_length_le (by have := hn1.out; omega), List.take_of_length_le (by have := hn2.out; omega)] at this)
        clear hM hM'
        go_wp2
        go_ret
        exact ⟨(by rw [hF.out]; first | done | rfl), hE⟩
  · have hlen2 : ¬ (n : Int) = (n' : Int) := by omega
    have hF := Lib.hid (show decide (l = l') = false from decide_eq_false (fun he => hlen (by rw [← hn1.out, ← hn2.out, he])))
    clear hM hM'
    go_enter Try.func87, Try.ntmps87
    go_wp2
    go_ret
    exact ⟨(by rw [hF.out]; first | done | rfl), Ext.refl _⟩
end Go.Proofs.Ytkmklafjcjkpdaa
