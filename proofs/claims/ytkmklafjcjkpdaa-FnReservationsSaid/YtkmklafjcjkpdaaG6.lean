/- Contracts and walks: windows after failures, waits, request durations. -/
import Derived.Test.YtkmklafjcjkpdaaG5
import Derived.Test.YtkmklafjcjkpdaaHash
namespace Go.Proofs.Ytkmklafjcjkpdaa
open Go.RowKit
set_option linter.unusedVariables false
set_option linter.unusedSimpArgs false
def wafN (m x : Int) : Nat → Int
  | 0 => m
  | k + 1 => min (2 * wafN m x k + 1) x
theorem wafN_bd {m x : Int} (h1 : 1 ≤ m) (h2 : m ≤ x) : ∀ k, m ≤ wafN m x k ∧ wafN m x k ≤ x
  | 0 => ⟨Int.le_refl _, h2⟩
  | k + 1 => by
    have := wafN_bd h1 h2 k
    simp only [wafN]
    omega
theorem wafN_succ (m x : Int) (k : Nat) : wafN m x (k + 1) = min (2 * wafN m x k + 1) x := rfl
def wafV (a m x b f : Int) : Int := if parB a m x b then wafN m x (min f 20).toNat else 0
theorem nextV_waf {a m x b : Int} (h : parB a m x b = true) (k : Nat) : nextV a m x b (wafN m x k) = wafN m x (k + 1) := by
  obtain ⟨a1, a2, m1, m2, x1, x2, mx⟩ := parB_bd h
  have h1 := wafN_bd m1 mx k
  simp [nextV, h, inB_mk h1.1 h1.2, wafN_succ]
theorem iWaf (a m x b f : Int) (w : World) : Calls Try.prog 32 #[.agg #[.int .i64 a, .int .i64 m, .int .i64 x, .int .i64 b], .int .i64 f] w fun e w' => e = .returned (.int .i64 (wafV a m x b f)) ∧ Below w.heap.size w w' := by
  by_cases h1 : parB a m x b = true
  · obtain ⟨a1, a2, m1, m2, x1, x2, mx⟩ := parB_bd h1
    have e1 : wafV a m x b f = wafN m x (min f 20).toNat := by simp [wafV, h1]
    rw [e1]
    clear e1
    obtain ⟨N, hN⟩ : ∃ N : Nat, (min f 20).toNat = N := ⟨_, rfl⟩
    rw [hN]
    have hN1 := Lib.hid hN
    clear hN
    go_enter Try.func32, Try.ntmps32
    go_wp2_with fail
    refine (iPar _ _ _ _ _).mono ?_
    rintro e w1 ⟨rfl, hb1⟩
    obtain ⟨hc1, hf1⟩ := bcell (hb1)
    have hb := Ext.trans (Ext.alloc_ _ _) hb1
    go_wp2_with fail
    go_loopw [5, 6] (fun v i wr => ∃ k : Nat, k ≤ N ∧ i = .int .i64 k ∧ v = .int .i64 (wafN m x k) ∧ Ext w1 wr) (fun _ i _ => N - (intOf i).toNat)
    case atStart => exact ⟨0, Nat.zero_le _, rfl, rfl, Ext.refl _⟩
    case round =>
      obtain ⟨k, hk, rfl, rfl, hE⟩ := hrel
      obtain ⟨hc2, hf2⟩ := bcell (Ext.trans hb1 hE)
      clear hc1 hf1
      by_cases hlt : k < N
      · have hn := Lib.hid (nextV_waf h1 k)
        have hlt' : (k : Int) < min f 20 := by have := hN1.out; omega
        have hw := wafN_bd m1 mx k
        clear h1
        go_wp2_with (first | (go_at_call 100; refine (iMin _ _ _).mono ?_; rintro e w' ⟨rfl, rfl⟩) | (go_at_call 27; refine (iNext _ _ _ _ _ _).mono ?_; rintro e w2 ⟨rfl, hb2⟩; rw [hn.out]))
        go_roundw
        case rel => exact ⟨k + 1, by omega, by go_num, rfl, Ext.trans hE hb2⟩
        case measure => simp [intOf]; omega
      · have hlt' : ¬ (k : Int) < min f 20 := by have := hN1.out; omega
        obtain rfl : k = N := by omega
        go_wp2_with (go_at_call 100; refine (iMin _ _ _).mono ?_; rintro e w' ⟨rfl, rfl⟩)
        go_ret
        exact ⟨rfl, Ext.trans hb hE⟩
  · have h1' : parB a m x b = false := by simpa using h1
    have e1 : wafV a m x b f = 0 := by simp [wafV, h1']
    rw [e1]
    clear e1
    go_enter Try.func32, Try.ntmps32
    go_wp2_with fail
    refine (iPar _ _ _ _ _).mono ?_
    rintro e w1 ⟨rfl, hb1⟩
    have hb := Ext.trans (Ext.alloc_ _ _) hb1
    clear hb1
    go_wp2_with fail
    go_ret
    exact ⟨rfl, hb⟩
theorem sWaf (a m x b f : Int) (w : World) : Calls Try.prog 93 #[.agg #[.int .i64 a, .int .i64 m, .int .i64 x, .int .i64 b], .int .i64 f] w fun e w' => e = .returned (.int .i64 (wafV a m x b f)) ∧ Below w.heap.size w w' := by
  by_cases h1 : parB a m x b = true
  · obtain ⟨a1, a2, m1, m2, x1, x2, mx⟩ := parB_bd h1
    have e1 : wafV a m x b f = wafN m x (min f 20).toNat := by simp [wafV, h1]
    rw [e1]
    clear e1
    obtain ⟨N, hN⟩ : ∃ N : Nat, (min f 20).toNat = N := ⟨_, rfl⟩
    rw [hN]
    have hN1 := Lib.hid hN
    clear hN
    go_enter Try.func93, Try.ntmps93
    go_wp2_with fail
    refine (sPar _ _ _ _ _).mono ?_
    rintro e w1 ⟨rfl, hb1⟩
    obtain ⟨hc1, hf1⟩ := bcell (hb1)
    have hb := Ext.trans (Ext.alloc_ _ _) hb1
    go_wp2_with fail
    go_loopw [5, 6] (fun v i wr => ∃ k : Nat, k ≤ N ∧ i = .int .i64 k ∧ v = .int .i64 (wafN m x k) ∧ Ext w1 wr) (fun _ i _ => N - (intOf i).toNat)
    case atStart => exact ⟨0, Nat.zero_le _, rfl, rfl, Ext.refl _⟩
    case round =>
      obtain ⟨k, hk, rfl, rfl, hE⟩ := hrel
      obtain ⟨hc2, hf2⟩ := bcell (Ext.trans hb1 hE)
      clear hc1 hf1
      by_cases hlt : k < N
      · have hn := Lib.hid (nextV_waf h1 k)
        have hlt1 : (k : Int) < f := by have := hN1.out; omega
        have hlt2 : (k : Int) < 20 := by have := hN1.out; omega
        have hw := wafN_bd m1 mx k
        clear h1
        go_wp2_with (go_at_call 143; refine (sNext _ _ _ _ _ _).mono ?_; rintro e w2 ⟨rfl, hb2⟩; rw [hn.out])
        go_roundw
        case rel => exact ⟨k + 1, by omega, by go_num, rfl, Ext.trans hE hb2⟩
        case measure => simp [intOf]; omega
      · obtain rfl : k = N := by omega
        by_cases hf : (k : Int) < f
        · have hf20 : ¬ (k : Int) < 20 := by have := hN1.out; omega
          go_wp2
          go_ret
          exact ⟨rfl, Ext.trans hb hE⟩
        · have hd : decide ((k : Int) < f) = false := by simpa using hf
          go_wp2
          go_ret
          exact ⟨rfl, Ext.trans hb hE⟩
  · have h1' : parB a m x b = false := by simpa using h1
    have e1 : wafV a m x b f = 0 := by simp [wafV, h1']
    rw [e1]
    clear e1
    go_enter Try.func93, Try.ntmps93
    go_wp2_with fail
    refine (sPar _ _ _ _ _).mono ?_
    rintro e w1 ⟨rfl, hb1⟩
    have hb := Ext.trans (Ext.alloc_ _ _) hb1
    clear hb1
    go_wp2_with fail
    go_ret
    exact ⟨rfl, hb⟩
def rwV (s d wd : Int) : Int := if inB wd 0 1023 then hashL [s, d, s] * hashL [s, d, s] % 2147483647 % (wd + 1) else 0
theorem rwV_in {s d wd : Int} (h : inB wd 0 1023 = true) : rwV s d wd = hashL [s, d, s] * hashL [s, d, s] % 2147483647 % (wd + 1) := by simp [rwV, h]
theorem sq_bd {h : Int} (h0 : 0 ≤ h) (h1 : h ≤ 2147483646) : 0 ≤ h * h ∧ h * h ≤ 4611686009837453316 := by
  refine ⟨Int.mul_nonneg h0 h0, ?_⟩
  have := Int.mul_le_mul h1 h1 h0 (by omega)
  omega
theorem rwV_bd (s d wd : Int) : 0 ≤ rwV s d wd ∧ rwV s d wd ≤ max 0 wd := by
  by_cases h : inB wd 0 1023 = true
  · have hb := inB_true h
    rw [rwV_in h]
    have := Int.emod_nonneg (hashL [s, d, s] * hashL [s, d, s] % 2147483647) (show wd + 1 ≠ 0 by omega)
    have := Int.emod_lt_of_pos (hashL [s, d, s] * hashL [s, d, s] % 2147483647) (show 0 < wd + 1 by omega)
    omega
  · have h' : inB wd 0 1023 = false := by simpa using h
    simp [rwV, h']
    omega
theorem iSq (s d : Int) (w : World) : Calls Try.prog 102 #[.int .i64 s, .int .i64 d] w fun e w' => e = .returned (.int .i64 (hashL [s, d, s] * hashL [s, d, s] % 2147483647)) ∧ Below w.heap.size w w' := by
  obtain ⟨h0, h1⟩ := hashL_bd [s, d, s]
  obtain ⟨q0, q1⟩ := sq_bd h0 h1
  have hC := cel_lit w 3 #[.int .i64 d]
  obtain ⟨H, hH⟩ : ∃ H, hashL [s, d, s] = H := ⟨_, rfl⟩
  rw [hH] at h0 h1 q0 q1 ⊢
  have hH1 := Lib.hid hH
  clear hH
  go_enter Try.func102, Try.ntmps102
  go_wp2_with fail
  refine (iKeyed _ _ _ _ [d] _ rfl hC (by simp) (by simp)).mono ?_
  rintro e w1 ⟨rfl, hb1⟩
  rw [show hashL (s :: [d] ++ [s]) = H from hH1.out]
  clear hC
  go_wp2_with fail
  go_ret
  exact ⟨rfl, Below.of_alloc hb1⟩
theorem iRw (s d wd : Int) (w : World) : Calls Try.prog 30 #[.int .i64 s, .int .i64 d, .int .i64 wd] w fun e w' => e = .returned (.int .i64 (rwV s d wd)) ∧ Below w.heap.size w w' := by
  by_cases h : inB wd 0 1023 = true
  · have hb := inB_true h
    rw [rwV_in h]
    go_enter Try.func30, Try.ntmps30
    go_wp2_with (first | (go_at_call 94; refine (iIn _ _ _ _).mono ?_; rintro e w' ⟨rfl, rfl⟩) | (go_at_call 102; refine (iSq _ _ _).mono ?_; rintro e w1 ⟨rfl, hb1⟩))
    go_ret
    exact ⟨rfl, hb1⟩
  · have h' : inB wd 0 1023 = false := by simpa using h
    have e1 : rwV s d wd = 0 := by simp [rwV, h']
    rw [e1]
    clear e1
    go_enter Try.func30, Try.ntmps30
    go_wp2_with (go_at_call 94; refine (iIn _ _ _ _).mono ?_; rintro e w' ⟨rfl, rfl⟩)
    go_ret
    exact ⟨rfl, Below.refl _ _⟩
theorem sRw (s d wd : Int) (w : World) : Calls Try.prog 162 #[.int .i64 s, .int .i64 d, .int .i64 wd] w fun e w' => e = .returned (.int .i64 (rwV s d wd)) ∧ Below w.heap.size w w' := by
  by_cases h : inB wd 0 1023 = true
  · have hb := inB_true h
    rw [rwV_in h]
    obtain ⟨h0, h1⟩ := hashL_bd [s, d, s]
    obtain ⟨q0, q1⟩ := sq_bd h0 h1
    have hC := cel_lit w 3 #[.int .i64 d]
    obtain ⟨H, hH⟩ : ∃ H, hashL [s, d, s] = H := ⟨_, rfl⟩
    rw [hH] at h0 h1 q0 q1 ⊢
    have hH1 := Lib.hid hH
    clear hH
    go_enter Try.func162, Try.ntmps162
    go_wp2_with (go_at_call 92; refine (sIn _ _ _ _).mono ?_; rintro e w' ⟨rfl, rfl⟩)
    refine (sKeyed _ _ _ _ [d] _ rfl hC (by simp) (by simp)).mono ?_
    rintro e w1 ⟨rfl, hb1⟩
    rw [show hashL (s :: [d] ++ [s]) = H from hH1.out]
    clear hC
    go_wp2_with fail
    go_ret
    exact ⟨rfl, Below.of_alloc hb1⟩
  · have h' : inB wd 0 1023 = false := by simpa using h
    have e1 : rwV s d wd = 0 := by simp [rwV, h']
    rw [e1]
    clear e1
    go_enter Try.func162, Try.ntmps162
    go_wp2_with (go_at_call 92; refine (sIn _ _ _ _).mono ?_; rintro e w' ⟨rfl, rfl⟩)
    go_ret
    exact ⟨rfl, Below.refl _ _⟩
def bpsV (r : Int) : Int := if r = 0 then 4 else if r = 1 then 8 else if r = 2 then 12 else if r = 3 then 24 else 0
theorem bpsV_bd (r : Int) : 0 ≤ bpsV r ∧ bpsV r ≤ 24 := by unfold bpsV; split <;> (try split) <;> (try split) <;> (try split) <;> omega
theorem iRate (r : Int) (w : World) : Calls Try.prog 129 #[.int .i64 r] w fun e w' => e = .returned (.bool (inB r 0 3)) ∧ w = w' := by
  go_enter Try.func129, Try.ntmps129
  go_wp2_with (go_at_call 94; refine (iIn _ _ _ _).mono ?_; rintro e w' ⟨rfl, rfl⟩)
  go_ret
  exact ⟨rfl, rfl⟩
theorem iBps (r : Int) (h : inB r 0 3 = true) (w : World) : Calls Try.prog 131 #[.int .i64 r] w fun e w' => e = .returned (.int .i64 (bpsV r)) ∧ Below w.heap.size w w' := by
  have hb := inB_true h
  have hr : r = 0 ∨ r = 1 ∨ r = 2 ∨ r = 3 := by omega
  clear hb h
  rcases hr with rfl | rfl | rfl | rfl
  all_goals
    go_enter Try.func131, Try.ntmps131
    go_wp2
    go_ret
    exact ⟨rfl, Below.refl _ _⟩
def slotsV (r n : Int) : Int := if inB r 0 3 && inB n 0 1000000000000 then 1 + ceilV n (bpsV r) else 0
theorem ceilV_bd (a b : Int) : 0 ≤ ceilV a b ∧ ceilV a b ≤ 2000000000000 := by
  unfold ceilV
  by_cases h : (inB a 0 1000000000000 && inB b 1 1000000000000) = true
  · rw [if_pos h]
    simp only [Bool.and_eq_true] at h
    have h1 := inB_true h.1
    have h2 := inB_true h.2
    refine ⟨Int.ediv_nonneg (by omega) (by omega), ?_⟩
    have := Int.ediv_le_self b (show 0 ≤ a + b - 1 by omega)
    have h3 := Int.ediv_le_self (a := a + b - 1) b (by omega)
    omega
  · rw [if_neg h]; omega
theorem slotsV_bd (r n : Int) : 0 ≤ slotsV r n ∧ slotsV r n ≤ 2000000000001 := by
  unfold slotsV
  have := ceilV_bd n (bpsV r)
  split <;> omega
theorem iSlots (r n : Int) (w : World) : Calls Try.prog 72 #[.int .i64 r, .int .i64 n] w fun e w' => e = .returned (.int .i64 (slotsV r n)) ∧ Below w.heap.size w w' := by
  by_cases h1 : inB r 0 3 = true
  · by_cases h2 : inB n 0 1000000000000 = true
    · have e1 : slotsV r n = 1 + ceilV n (bpsV r) := by simp [slotsV, h1, h2]
      have hc := ceilV_bd n (bpsV r)
      rw [e1]
      clear e1
      go_enter Try.func72, Try.ntmps72
      go_wp2_with (first | (go_at_call 94; refine (iIn _ _ _ _).mono ?_; rintro e w' ⟨rfl, rfl⟩) | (go_at_call 129; refine (iRate _ _).mono ?_; rintro e w' ⟨rfl, rfl⟩) | (go_at_call 131; refine (iBps _ h1 _).mono ?_; rintro e w1 ⟨rfl, hb1⟩) | (go_at_call 130; refine (iCeil _ _ _).mono ?_; rintro e w2 ⟨rfl, rfl⟩))
      go_ret
      exact ⟨rfl, hb1⟩
    · have h2' : inB n 0 1000000000000 = false := by simpa using h2
      have e1 : slotsV r n = 0 := by simp [slotsV, h2']
      rw [e1]
      clear e1
      go_enter Try.func72, Try.ntmps72
      go_wp2_with (first | (go_at_call 94; refine (iIn _ _ _ _).mono ?_; rintro e w' ⟨rfl, rfl⟩) | (go_at_call 129; refine (iRate _ _).mono ?_; rintro e w' ⟨rfl, rfl⟩))
      go_ret
      exact ⟨rfl, Below.refl _ _⟩
  · have h1' : inB r 0 3 = false := by simpa using h1
    have e1 : slotsV r n = 0 := by simp [slotsV, h1']
    rw [e1]
    clear e1
    go_enter Try.func72, Try.ntmps72
    go_wp2_with (first | (go_at_call 94; refine (iIn _ _ _ _).mono ?_; rintro e w' ⟨rfl, rfl⟩) | (go_at_call 129; refine (iRate _ _).mono ?_; rintro e w' ⟨rfl, rfl⟩))
    go_ret
    exact ⟨rfl, Below.refl _ _⟩
def reqV (r n : Int) : Int := if slotsV r n = 0 then 0 else min (slotsV r n + 2) 1000
theorem iReq (r n : Int) (w : World) : Calls Try.prog 71 #[.int .i64 r, .int .i64 n] w fun e w' => e = .returned (.int .i64 (reqV r n)) ∧ Below w.heap.size w w' := by
  have hs := slotsV_bd r n
  by_cases h0 : slotsV r n = 0
  · have e1 : reqV r n = 0 := by simp [reqV, h0]
    have k0 : (slotsV r n == 0) = true := by simp [h0]
    rw [e1]
    clear e1 h0
    go_enter Try.func71, Try.ntmps71
    go_wp2_with (first | (go_at_call 100; refine (iMin _ _ _).mono ?_; rintro e w' ⟨rfl, rfl⟩) | (go_at_call 72; refine (iSlots _ _ _).mono ?_; rintro e w1 ⟨rfl, hb1⟩))
    go_ret
    exact ⟨rfl, hb1⟩
  · have e1 : reqV r n = min (slotsV r n + 2) 1000 := by simp [reqV, h0]
    have k0 : (slotsV r n == 0) = false := by simp [h0]
    rw [e1]
    clear e1 h0
    go_enter Try.func71, Try.ntmps71
    go_wp2_with (first | (go_at_call 100; refine (iMin _ _ _).mono ?_; rintro e w' ⟨rfl, rfl⟩) | (go_at_call 72; refine (iSlots _ _ _).mono ?_; rintro e w1 ⟨rfl, hb1⟩))
    go_ret
    exact ⟨rfl, hb1⟩
end Go.Proofs.Ytkmklafjcjkpdaa
