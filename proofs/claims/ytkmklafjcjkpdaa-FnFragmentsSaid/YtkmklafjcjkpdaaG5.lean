/- Contracts and walks: fragment counts, windows, request durations. -/
import Derived.Test.YtkmklafjcjkpdaaG4
namespace Go.Proofs.Ytkmklafjcjkpdaa
open Go.RowKit
set_option linter.unusedVariables false
set_option linter.unusedSimpArgs false
def fragV (b t : Int) : Int := if decide (b < 0) || !inB t 1 100 || decide (16 * t < b) then 0 else if b = 0 then 1 else (b + t - 1) / t
theorem div_bd {b t : Int} (h1 : 1 ≤ t) (h3 : 1 ≤ b) (h2 : b ≤ 16 * t) : 1 ≤ (b + t - 1) / t ∧ (b + t - 1) / t ≤ 16 := by
  refine ⟨Int.le_ediv_of_mul_le (by omega) (by omega), ?_⟩
  have := Int.ediv_lt_of_lt_mul (a := b + t - 1) (b := 17) (c := t) (by omega) (by omega)
  omega
theorem div_gt {b t : Int} (h1 : 1 ≤ t) (h2 : 16 * t < b) : 16 < (b + t - 1) / t := by
  have := Int.le_ediv_of_mul_le (a := 17) (b := b + t - 1) (c := t) (by omega) (by omega)
  omega
theorem ceilV_in {b t : Int} (h1 : inB t 1 100 = true) (h0 : 0 ≤ b) (h2 : b ≤ 1000000000000) : ceilV b t = (b + t - 1) / t := by
  have hb := inB_true h1
  simp [ceilV, inB_mk (x := b) (a := 0) (b := 1000000000000) (by omega) (by omega), inB_mk (x := t) (a := 1) (b := 1000000000000) (by omega) (by omega)]
theorem ceilV_out {b t : Int} (h2 : 1000000000000 < b) : ceilV b t = 0 := by
  simp [ceilV, inB_not (x := b) (a := 0) (b := 1000000000000) (by omega)]
theorem iFrag (b t : Int) (w : World) : Calls Try.prog 83 #[.int .i64 b, .int .i64 t] w fun e w' => e = .returned (.int .i64 (fragV b t)) ∧ w = w' := by
  by_cases h1 : b < 0
  · have e1 : fragV b t = 0 := by simp [fragV, h1]
    rw [e1]
    clear e1
    go_enter Try.func83, Try.ntmps83
    go_wp2_with (go_at_call 94; refine (iIn _ _ _ _).mono ?_; rintro e w' ⟨rfl, rfl⟩)
    all_goals go_ret
    all_goals exact ⟨rfl, rfl⟩
  · have h1' : decide (b < 0) = false := by simpa using h1
    by_cases h2 : inB t 1 100 = true
    · have hb := inB_true h2
      by_cases h3 : 16 * t < b
      · have e1 : fragV b t = 0 := by simp [fragV, h3]
        rw [e1]
        clear e1
        go_enter Try.func83, Try.ntmps83
        go_wp2_with (go_at_call 94; refine (iIn _ _ _ _).mono ?_; rintro e w' ⟨rfl, rfl⟩)
        all_goals go_ret
        all_goals exact ⟨rfl, rfl⟩
      · have h3' : decide (16 * t < b) = false := by simpa using h3
        by_cases h4 : b = 0
        · have e1 : fragV b t = 1 := by simp [fragV, h1', h2, h3', h4]; omega
          rw [e1]
          clear e1
          have k4 : (b == 0) = true := by simp [h4]
          clear h4
          go_enter Try.func83, Try.ntmps83
          go_wp2_with (go_at_call 94; refine (iIn _ _ _ _).mono ?_; rintro e w' ⟨rfl, rfl⟩)
          all_goals go_ret
          all_goals exact ⟨rfl, rfl⟩
        · have e1 : fragV b t = ceilV b t := by
            rw [ceilV_in h2 (by omega) (by omega)]
            simp [fragV, h1', h2, h4]
            omega
          rw [e1]
          clear e1
          have k4 : (b == 0) = false := by simp [h4]
          clear h4
          go_enter Try.func83, Try.ntmps83
          go_wp2_with (first | (go_at_call 94; refine (iIn _ _ _ _).mono ?_; rintro e w' ⟨rfl, rfl⟩) | (go_at_call 130; refine (iCeil _ _ _).mono ?_; rintro e w' ⟨rfl, rfl⟩))
          all_goals go_ret
          all_goals exact ⟨rfl, rfl⟩
    · have h2' : inB t 1 100 = false := by simpa using h2
      have e1 : fragV b t = 0 := by simp [fragV, h2']
      rw [e1]
      clear e1
      go_enter Try.func83, Try.ntmps83
      go_wp2_with (go_at_call 94; refine (iIn _ _ _ _).mono ?_; rintro e w' ⟨rfl, rfl⟩)
      all_goals go_ret
      all_goals exact ⟨rfl, rfl⟩
theorem sFrag (b t : Int) (w : World) : Calls Try.prog 84 #[.int .i64 b, .int .i64 t] w fun e w' => e = .returned (.int .i64 (fragV b t)) ∧ w = w' := by
  by_cases h1 : b < 0
  · have e1 : fragV b t = 0 := by simp [fragV, h1]
    rw [e1]
    clear e1
    go_enter Try.func84, Try.ntmps84
    go_wp2_with (go_at_call 92; refine (sIn _ _ _ _).mono ?_; rintro e w' ⟨rfl, rfl⟩)
    all_goals go_ret
    all_goals exact ⟨rfl, rfl⟩
  · have h1' : decide (b < 0) = false := by simpa using h1
    by_cases h2 : inB t 1 100 = true
    · have hb := inB_true h2
      by_cases h5 : 1000000000000 < b
      · have e1 : fragV b t = 0 := by simp [fragV, show 16 * t < b by omega]
        rw [e1]
        clear e1
        have hc := Lib.hid (ceilV_out (t := t) h5)
        go_enter Try.func84, Try.ntmps84
        go_wp2_with (first | (go_at_call 92; refine (sIn _ _ _ _).mono ?_; rintro e w' ⟨rfl, rfl⟩) | (go_at_call 138; refine (sCeil _ _ _).mono ?_; rintro e w' ⟨rfl, rfl⟩; rw [hc.out]) | (go_at_call 68; refine (sMax _ _ _).mono ?_; rintro e w' ⟨rfl, rfl⟩))
        all_goals go_ret
        all_goals exact ⟨rfl, rfl⟩
      · have hc := ceilV_in (b := b) h2 (by omega) (by omega)
        have hc' := Lib.hid hc
        by_cases h3 : 16 * t < b
        · have e1 : fragV b t = 0 := by simp [fragV, h3]
          rw [e1]
          clear e1
          have hg := div_gt hb.1 h3
          rw [← hc] at hg
          clear hc
          go_enter Try.func84, Try.ntmps84
          go_wp2_with (first | (go_at_call 92; refine (sIn _ _ _ _).mono ?_; rintro e w' ⟨rfl, rfl⟩) | (go_at_call 138; refine (sCeil _ _ _).mono ?_; rintro e w' ⟨rfl, rfl⟩) | (go_at_call 68; refine (sMax _ _ _).mono ?_; rintro e w' ⟨rfl, rfl⟩))
          all_goals go_ret
          all_goals exact ⟨rfl, rfl⟩
        · have h3' : decide (16 * t < b) = false := by simpa using h3
          have e1 : fragV b t = max 1 (ceilV b t) := by
            by_cases h4 : b = 0
            · subst h4
              rw [hc]
              have : (0 + t - 1) / t = 0 := Int.ediv_eq_zero_of_lt (by omega) (by omega)
              rw [this]
              simp [fragV, h2]
              omega
            · have := div_bd hb.1 (show 1 ≤ b by omega) (show b ≤ 16 * t by omega)
              have e2 : max 1 ((b + t - 1) / t) = (b + t - 1) / t := by omega
              rw [hc, e2]
              simp only [fragV, h1', h2, h3', Bool.not_true, Bool.or_self, Bool.false_eq_true, if_false]
              rw [if_neg h4]
          have hm : ceilV b t ≤ 16 := by
            rw [hc]
            by_cases h4 : b = 0
            · subst h4
              have : (0 + t - 1) / t = 0 := Int.ediv_eq_zero_of_lt (by omega) (by omega)
              rw [this]
              decide
            · have := div_bd hb.1 (show 1 ≤ b by omega) (show b ≤ 16 * t by omega)
              omega
          rw [e1]
          clear e1 hc
          go_enter Try.func84, Try.ntmps84
          go_wp2_with (first | (go_at_call 92; refine (sIn _ _ _ _).mono ?_; rintro e w' ⟨rfl, rfl⟩) | (go_at_call 138; refine (sCeil _ _ _).mono ?_; rintro e w' ⟨rfl, rfl⟩) | (go_at_call 68; refine (sMax _ _ _).mono ?_; rintro e w' ⟨rfl, rfl⟩))
          all_goals go_ret
          all_goals exact ⟨rfl, rfl⟩
    · have h2' : inB t 1 100 = false := by simpa using h2
      have e1 : fragV b t = 0 := by simp [fragV, h2']
      rw [e1]
      clear e1
      go_enter Try.func84, Try.ntmps84
      go_wp2_with (go_at_call 92; refine (sIn _ _ _ _).mono ?_; rintro e w' ⟨rfl, rfl⟩)
      all_goals go_ret
      all_goals exact ⟨rfl, rfl⟩
def nextV (a m x b wd : Int) : Int := if parB a m x b then (if inB wd m x then min (2 * wd + 1) x else m) else 0
theorem parB_bd {a m x b : Int} (h : parB a m x b = true) : 1 ≤ a ∧ a ≤ 15 ∧ 1 ≤ m ∧ m ≤ 1023 ∧ 1 ≤ x ∧ x ≤ 1023 ∧ m ≤ x := by
  simp only [parB, winB, Bool.and_eq_true, decide_eq_true_eq] at h
  have h1 := inB_true h.1.1.1.1
  have h2 := inB_true h.1.1.1.2.1
  have h3 := inB_true h.1.1.2.1
  exact ⟨h1.1, h1.2, h2.1, h2.2, h3.1, h3.2, h.1.2⟩
theorem sNext (a m x b wd : Int) (w : World) : Calls Try.prog 143 #[.agg #[.int .i64 a, .int .i64 m, .int .i64 x, .int .i64 b], .int .i64 wd] w fun e w' => e = .returned (.int .i64 (nextV a m x b wd)) ∧ Below w.heap.size w w' := by
  by_cases h1 : parB a m x b = true
  · obtain ⟨a1, a2, m1, m2, x1, x2, mx⟩ := parB_bd h1
    by_cases h2 : inB wd m x = true
    · have hb2 := inB_true h2
      have e1 : nextV a m x b wd = min x (2 * wd + 1) := by simp [nextV, h1, h2, Int.min_comm]
      rw [e1]
      clear e1
      go_enter Try.func143, Try.ntmps143
      go_wp2_with fail
      refine (sPar _ _ _ _ _).mono ?_
      rintro e w1 ⟨rfl, hb1⟩
      obtain ⟨hc1, hf1⟩ := bcell (hb1)
      have hb := Ext.trans (Ext.alloc_ _ _) hb1
      clear hb1
      go_wp2_with (first | (go_at_call 92; refine (sIn _ _ _ _).mono ?_; rintro e w' ⟨rfl, rfl⟩) | (go_at_call 123; refine (sMin _ _ _).mono ?_; rintro e w' ⟨rfl, rfl⟩))
      go_ret
      exact ⟨rfl, hb⟩
    · have h2' : inB wd m x = false := by simpa using h2
      have e1 : nextV a m x b wd = m := by simp [nextV, h1, h2']
      rw [e1]
      clear e1
      go_enter Try.func143, Try.ntmps143
      go_wp2_with fail
      refine (sPar _ _ _ _ _).mono ?_
      rintro e w1 ⟨rfl, hb1⟩
      obtain ⟨hc1, hf1⟩ := bcell (hb1)
      have hb := Ext.trans (Ext.alloc_ _ _) hb1
      clear hb1
      go_wp2_with (first | (go_at_call 92; refine (sIn _ _ _ _).mono ?_; rintro e w' ⟨rfl, rfl⟩) | (go_at_call 123; refine (sMin _ _ _).mono ?_; rintro e w' ⟨rfl, rfl⟩))
      go_ret
      exact ⟨rfl, hb⟩
  · have h1' : parB a m x b = false := by simpa using h1
    have e1 : nextV a m x b wd = 0 := by simp [nextV, h1']
    rw [e1]
    clear e1
    go_enter Try.func143, Try.ntmps143
    go_wp2_with fail
    refine (sPar _ _ _ _ _).mono ?_
    rintro e w1 ⟨rfl, hb1⟩
    have hb := Ext.trans (Ext.alloc_ _ _) hb1
    clear hb1
    go_wp2_with (first | (go_at_call 92; refine (sIn _ _ _ _).mono ?_; rintro e w' ⟨rfl, rfl⟩) | (go_at_call 123; refine (sMin _ _ _).mono ?_; rintro e w' ⟨rfl, rfl⟩))
    go_ret
    exact ⟨rfl, hb⟩
theorem iNext (a m x b wd : Int) (w : World) : Calls Try.prog 27 #[.agg #[.int .i64 a, .int .i64 m, .int .i64 x, .int .i64 b], .int .i64 wd] w fun e w' => e = .returned (.int .i64 (nextV a m x b wd)) ∧ Below w.heap.size w w' := by
  by_cases h1 : parB a m x b = true
  · obtain ⟨a1, a2, m1, m2, x1, x2, mx⟩ := parB_bd h1
    by_cases h2 : inB wd m x = true
    · have hb2 := inB_true h2
      have e1 : nextV a m x b wd = min (2 * wd + 1) x := by simp [nextV, h1, h2]
      rw [e1]
      clear e1
      go_enter Try.func27, Try.ntmps27
      go_wp2_with fail
      refine (iPar _ _ _ _ _).mono ?_
      rintro e w1 ⟨rfl, hb1⟩
      obtain ⟨hc1, hf1⟩ := bcell (hb1)
      have hb := Ext.trans (Ext.alloc_ _ _) hb1
      clear hb1
      go_wp2_with (first | (go_at_call 94; refine (iIn _ _ _ _).mono ?_; rintro e w' ⟨rfl, rfl⟩) | (go_at_call 100; refine (iMin _ _ _).mono ?_; rintro e w' ⟨rfl, rfl⟩))
      go_ret
      exact ⟨rfl, hb⟩
    · have h2' : inB wd m x = false := by simpa using h2
      have e1 : nextV a m x b wd = m := by simp [nextV, h1, h2']
      rw [e1]
      clear e1
      go_enter Try.func27, Try.ntmps27
      go_wp2_with fail
      refine (iPar _ _ _ _ _).mono ?_
      rintro e w1 ⟨rfl, hb1⟩
      obtain ⟨hc1, hf1⟩ := bcell (hb1)
      have hb := Ext.trans (Ext.alloc_ _ _) hb1
      clear hb1
      go_wp2_with (first | (go_at_call 94; refine (iIn _ _ _ _).mono ?_; rintro e w' ⟨rfl, rfl⟩) | (go_at_call 100; refine (iMin _ _ _).mono ?_; rintro e w' ⟨rfl, rfl⟩))
      go_ret
      exact ⟨rfl, hb⟩
  · have h1' : parB a m x b = false := by simpa using h1
    have e1 : nextV a m x b wd = 0 := by simp [nextV, h1']
    rw [e1]
    clear e1
    go_enter Try.func27, Try.ntmps27
    go_wp2_with fail
    refine (iPar _ _ _ _ _).mono ?_
    rintro e w1 ⟨rfl, hb1⟩
    have hb := Ext.trans (Ext.alloc_ _ _) hb1
    clear hb1
    go_wp2_with (first | (go_at_call 94; refine (iIn _ _ _ _).mono ?_; rintro e w' ⟨rfl, rfl⟩) | (go_at_call 100; refine (iMin _ _ _).mono ?_; rintro e w' ⟨rfl, rfl⟩))
    go_ret
    exact ⟨rfl, hb⟩
end Go.Proofs.Ytkmklafjcjkpdaa
