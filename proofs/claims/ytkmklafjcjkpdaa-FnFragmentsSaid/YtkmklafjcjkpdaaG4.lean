/- Contracts and walks of the laws over access parameters. -/
import Derived.Test.YtkmklafjcjkpdaaG2
namespace Go.Proofs.Ytkmklafjcjkpdaa
open Go.RowKit
set_option linter.unusedVariables false
set_option linter.unusedSimpArgs false
def parB (a m x b : Int) : Bool := inB a 1 15 && winB m && winB x && decide (m ≤ x) && inB b 1 1000
theorem parB_false {a m x b : Int} (h : inB a 1 15 = false ∨ winB m = false ∨ winB x = false ∨ decide (m ≤ x) = false ∨ inB b 1 1000 = false) : parB a m x b = false := by
  unfold parB
  rcases h with h | h | h | h | h <;> rw [h] <;> simp
set_option maxHeartbeats 800000 in
theorem sPar (a m x b : Int) (w : World) : Calls Try.prog 33 #[.agg #[.int .i64 a, .int .i64 m, .int .i64 x, .int .i64 b]] w fun e w' => e = .returned (.bool (parB a m x b)) ∧ Below w.heap.size w w' := by
  by_cases h1 : inB a 1 15 = true
  · by_cases h2 : winB m = true
    · by_cases h3 : winB x = true
      · by_cases h4 : decide (m ≤ x) = true
        · have e1 : parB a m x b = inB b 1 1000 := by simp only [parB, h1, h2, h3, h4, Bool.true_and]
          rw [e1]
          clear e1
          have h4' : m ≤ x := by simpa using h4
          go_enter Try.func33, Try.ntmps33
          go_wp2_with (first | (go_at_call 92; refine (sIn _ _ _ _).mono ?_; rintro e w' ⟨rfl, rfl⟩) | (go_at_call 105; refine (sWindow _ _).mono ?_; rintro e w' ⟨rfl, rfl⟩))
          all_goals go_ret
          all_goals exact ⟨rfl, by repeat (first | (with_reducible exact Below.refl _ _) | (with_reducible assumption) | (with_reducible refine Below.alloc ?_ (by simp <;> omega) _) | (with_reducible refine Below.setCell ?_ (by simp <;> omega) _) | (with_reducible refine Below.drew ?_))⟩
        · have h4' : decide (m ≤ x) = false := by simpa using h4
          rw [parB_false (.inr (.inr (.inr (.inl h4'))))]
          have h5 : ¬ m ≤ x := by simpa using h4
          go_enter Try.func33, Try.ntmps33
          go_wp2_with (first | (go_at_call 92; refine (sIn _ _ _ _).mono ?_; rintro e w' ⟨rfl, rfl⟩) | (go_at_call 105; refine (sWindow _ _).mono ?_; rintro e w' ⟨rfl, rfl⟩))
          all_goals go_ret
          all_goals exact ⟨rfl, by repeat (first | (with_reducible exact Below.refl _ _) | (with_reducible assumption) | (with_reducible refine Below.alloc ?_ (by simp <;> omega) _) | (with_reducible refine Below.setCell ?_ (by simp <;> omega) _) | (with_reducible refine Below.drew ?_))⟩
      · have h3' : winB x = false := by simpa using h3
        rw [parB_false (.inr (.inr (.inl h3')))]
        go_enter Try.func33, Try.ntmps33
        go_wp2_with (first | (go_at_call 92; refine (sIn _ _ _ _).mono ?_; rintro e w' ⟨rfl, rfl⟩) | (go_at_call 105; refine (sWindow _ _).mono ?_; rintro e w' ⟨rfl, rfl⟩))
        all_goals go_ret
        all_goals exact ⟨rfl, by repeat (first | (with_reducible exact Below.refl _ _) | (with_reducible assumption) | (with_reducible refine Below.alloc ?_ (by simp <;> omega) _) | (with_reducible refine Below.setCell ?_ (by simp <;> omega) _) | (with_reducible refine Below.drew ?_))⟩
    · have h2' : winB m = false := by simpa using h2
      rw [parB_false (.inr (.inl h2'))]
      go_enter Try.func33, Try.ntmps33
      go_wp2_with (first | (go_at_call 92; refine (sIn _ _ _ _).mono ?_; rintro e w' ⟨rfl, rfl⟩) | (go_at_call 105; refine (sWindow _ _).mono ?_; rintro e w' ⟨rfl, rfl⟩))
      all_goals go_ret
      all_goals exact ⟨rfl, by repeat (first | (with_reducible exact Below.refl _ _) | (with_reducible assumption) | (with_reducible refine Below.alloc ?_ (by simp <;> omega) _) | (with_reducible refine Below.setCell ?_ (by simp <;> omega) _) | (with_reducible refine Below.drew ?_))⟩
  · have h1' : inB a 1 15 = false := by simpa using h1
    rw [parB_false (.inl h1')]
    go_enter Try.func33, Try.ntmps33
    go_wp2_with (first | (go_at_call 92; refine (sIn _ _ _ _).mono ?_; rintro e w' ⟨rfl, rfl⟩) | (go_at_call 105; refine (sWindow _ _).mono ?_; rintro e w' ⟨rfl, rfl⟩))
    all_goals go_ret
    all_goals exact ⟨rfl, by repeat (first | (with_reducible exact Below.refl _ _) | (with_reducible assumption) | (with_reducible refine Below.alloc ?_ (by simp <;> omega) _) | (with_reducible refine Below.setCell ?_ (by simp <;> omega) _) | (with_reducible refine Below.drew ?_))⟩
set_option maxHeartbeats 800000 in
theorem iPar (a m x b : Int) (w : World) : Calls Try.prog 34 #[.agg #[.int .i64 a, .int .i64 m, .int .i64 x, .int .i64 b]] w fun e w' => e = .returned (.bool (parB a m x b)) ∧ Below w.heap.size w w' := by
  by_cases h1 : inB a 1 15 = true
  · by_cases h2 : winB m = true
    · by_cases h3 : winB x = true
      · by_cases h4 : decide (m ≤ x) = true
        · have e1 : parB a m x b = inB b 1 1000 := by simp only [parB, h1, h2, h3, h4, Bool.true_and]
          rw [e1]
          clear e1
          have h4' : m ≤ x := by simpa using h4
          go_enter Try.func34, Try.ntmps34
          go_wp2_with (first | (go_at_call 94; refine (iIn _ _ _ _).mono ?_; rintro e w' ⟨rfl, rfl⟩) | (go_at_call 106; refine (iWindow _ _).mono ?_; rintro e w' ⟨rfl, rfl⟩))
          all_goals go_ret
          all_goals exact ⟨rfl, by repeat (first | (with_reducible exact Below.refl _ _) | (with_reducible assumption) | (with_reducible refine Below.alloc ?_ (by simp <;> omega) _) | (with_reducible refine Below.setCell ?_ (by simp <;> omega) _) | (with_reducible refine Below.drew ?_))⟩
        · have h4' : decide (m ≤ x) = false := by simpa using h4
          rw [parB_false (.inr (.inr (.inr (.inl h4'))))]
          have h5 : ¬ m ≤ x := by simpa using h4
          go_enter Try.func34, Try.ntmps34
          go_wp2_with (first | (go_at_call 94; refine (iIn _ _ _ _).mono ?_; rintro e w' ⟨rfl, rfl⟩) | (go_at_call 106; refine (iWindow _ _).mono ?_; rintro e w' ⟨rfl, rfl⟩))
          all_goals go_ret
          all_goals exact ⟨rfl, by repeat (first | (with_reducible exact Below.refl _ _) | (with_reducible assumption) | (with_reducible refine Below.alloc ?_ (by simp <;> omega) _) | (with_reducible refine Below.setCell ?_ (by simp <;> omega) _) | (with_reducible refine Below.drew ?_))⟩
      · have h3' : winB x = false := by simpa using h3
        rw [parB_false (.inr (.inr (.inl h3')))]
        go_enter Try.func34, Try.ntmps34
        go_wp2_with (first | (go_at_call 94; refine (iIn _ _ _ _).mono ?_; rintro e w' ⟨rfl, rfl⟩) | (go_at_call 106; refine (iWindow _ _).mono ?_; rintro e w' ⟨rfl, rfl⟩))
        all_goals go_ret
        all_goals exact ⟨rfl, by repeat (first | (with_reducible exact Below.refl _ _) | (with_reducible assumption) | (with_reducible refine Below.alloc ?_ (by simp <;> omega) _) | (with_reducible refine Below.setCell ?_ (by simp <;> omega) _) | (with_reducible refine Below.drew ?_))⟩
    · have h2' : winB m = false := by simpa using h2
      rw [parB_false (.inr (.inl h2'))]
      go_enter Try.func34, Try.ntmps34
      go_wp2_with (first | (go_at_call 94; refine (iIn _ _ _ _).mono ?_; rintro e w' ⟨rfl, rfl⟩) | (go_at_call 106; refine (iWindow _ _).mono ?_; rintro e w' ⟨rfl, rfl⟩))
      all_goals go_ret
      all_goals exact ⟨rfl, by repeat (first | (with_reducible exact Below.refl _ _) | (with_reducible assumption) | (with_reducible refine Below.alloc ?_ (by simp <;> omega) _) | (with_reducible refine Below.setCell ?_ (by simp <;> omega) _) | (with_reducible refine Below.drew ?_))⟩
  · have h1' : inB a 1 15 = false := by simpa using h1
    rw [parB_false (.inl h1')]
    go_enter Try.func34, Try.ntmps34
    go_wp2_with (first | (go_at_call 94; refine (iIn _ _ _ _).mono ?_; rintro e w' ⟨rfl, rfl⟩) | (go_at_call 106; refine (iWindow _ _).mono ?_; rintro e w' ⟨rfl, rfl⟩))
    all_goals go_ret
    all_goals exact ⟨rfl, by repeat (first | (with_reducible exact Below.refl _ _) | (with_reducible assumption) | (with_reducible refine Below.alloc ?_ (by simp <;> omega) _) | (with_reducible refine Below.setCell ?_ (by simp <;> omega) _) | (with_reducible refine Below.drew ?_))⟩
def pfV (c : Int) (a b d e z : Int) : Int := if c = 0 then a else if c = 1 then b else if c = 2 then d else if c = 3 then e else z
def pfA (c : Int) : Int := pfV c 7 3 2 2 0
def pfM (c : Int) : Int := pfV c 15 15 7 3 0
def pfX (c : Int) : Int := pfV c 1023 1023 15 7 0
def pfB (c : Int) : Int := pfV c 10 10 40 20 0
theorem pfV_out {c : Int} (h : ¬ (c = 0 ∨ c = 1 ∨ c = 2 ∨ c = 3)) (a b d e z : Int) : pfV c a b d e z = z := by
  simp only [pfV]; rw [if_neg (by omega), if_neg (by omega), if_neg (by omega), if_neg (by omega)]
set_option maxHeartbeats 800000 in
theorem sFor (c : Int) (w : World) : Calls Try.prog 145 #[.int .i64 c] w fun e w' => e = .returned (.agg #[.int .i64 (pfA c), .int .i64 (pfM c), .int .i64 (pfX c), .int .i64 (pfB c)]) ∧ Below w.heap.size w w' := by
  by_cases h0 : c = 0 ∨ c = 1 ∨ c = 2 ∨ c = 3
  · rcases h0 with rfl | rfl | rfl | rfl
    · go_enter Try.func145, Try.ntmps145
      go_wp2
      exact bodyPost_ret (v := .agg #[.int .i64 7, .int .i64 15, .int .i64 1023, .int .i64 10]) (by simp [results, Try.results145, go_sem]) rfl ⟨rfl, by repeat (first | (with_reducible exact Below.refl _ _) | (with_reducible assumption) | (with_reducible refine Below.alloc ?_ (by simp <;> omega) _) | (with_reducible refine Below.setCell ?_ (by simp <;> omega) _) | (with_reducible refine Below.drew ?_))⟩
    · go_enter Try.func145, Try.ntmps145
      go_wp2
      exact bodyPost_ret (v := .agg #[.int .i64 3, .int .i64 15, .int .i64 1023, .int .i64 10]) (by simp [results, Try.results145, go_sem]) rfl ⟨rfl, by repeat (first | (with_reducible exact Below.refl _ _) | (with_reducible assumption) | (with_reducible refine Below.alloc ?_ (by simp <;> omega) _) | (with_reducible refine Below.setCell ?_ (by simp <;> omega) _) | (with_reducible refine Below.drew ?_))⟩
    · go_enter Try.func145, Try.ntmps145
      go_wp2
      exact bodyPost_ret (v := .agg #[.int .i64 2, .int .i64 7, .int .i64 15, .int .i64 40]) (by simp [results, Try.results145, go_sem]) rfl ⟨rfl, by repeat (first | (with_reducible exact Below.refl _ _) | (with_reducible assumption) | (with_reducible refine Below.alloc ?_ (by simp <;> omega) _) | (with_reducible refine Below.setCell ?_ (by simp <;> omega) _) | (with_reducible refine Below.drew ?_))⟩
    · go_enter Try.func145, Try.ntmps145
      go_wp2
      exact bodyPost_ret (v := .agg #[.int .i64 2, .int .i64 3, .int .i64 7, .int .i64 20]) (by simp [results, Try.results145, go_sem]) rfl ⟨rfl, by repeat (first | (with_reducible exact Below.refl _ _) | (with_reducible assumption) | (with_reducible refine Below.alloc ?_ (by simp <;> omega) _) | (with_reducible refine Below.setCell ?_ (by simp <;> omega) _) | (with_reducible refine Below.drew ?_))⟩
  · have k0 : (c == 0) = false := by simp; omega
    have k1 : (c == 1) = false := by simp; omega
    have k2 : (c == 2) = false := by simp; omega
    have k3 : (c == 3) = false := by simp; omega
    simp only [pfA, pfM, pfX, pfB, pfV_out h0]
    clear h0
    go_enter Try.func145, Try.ntmps145
    go_wp2
    exact bodyPost_ret (v := .agg #[.int .i64 0, .int .i64 0, .int .i64 0, .int .i64 0]) (by simp [results, Try.results145, go_sem]) rfl ⟨rfl, by repeat (first | (with_reducible exact Below.refl _ _) | (with_reducible assumption) | (with_reducible refine Below.alloc ?_ (by simp <;> omega) _) | (with_reducible refine Below.setCell ?_ (by simp <;> omega) _) | (with_reducible refine Below.drew ?_))⟩
set_option maxHeartbeats 800000 in
theorem iFor (c : Int) (w : World) : Calls Try.prog 35 #[.int .i64 c] w fun e w' => e = .returned (.agg #[.int .i64 (pfA c), .int .i64 (pfM c), .int .i64 (pfX c), .int .i64 (pfB c)]) ∧ Below w.heap.size w w' := by
  by_cases h0 : c = 0 ∨ c = 1 ∨ c = 2 ∨ c = 3
  · rcases h0 with rfl | rfl | rfl | rfl
    · go_enter Try.func35, Try.ntmps35
      go_wp2
      exact bodyPost_ret (v := .agg #[.int .i64 7, .int .i64 15, .int .i64 1023, .int .i64 10]) (by simp [results, Try.results35, go_sem]) rfl ⟨rfl, by repeat (first | (with_reducible exact Below.refl _ _) | (with_reducible assumption) | (with_reducible refine Below.alloc ?_ (by simp <;> omega) _) | (with_reducible refine Below.setCell ?_ (by simp <;> omega) _) | (with_reducible refine Below.drew ?_))⟩
    · go_enter Try.func35, Try.ntmps35
      go_wp2
      exact bodyPost_ret (v := .agg #[.int .i64 3, .int .i64 15, .int .i64 1023, .int .i64 10]) (by simp [results, Try.results35, go_sem]) rfl ⟨rfl, by repeat (first | (with_reducible exact Below.refl _ _) | (with_reducible assumption) | (with_reducible refine Below.alloc ?_ (by simp <;> omega) _) | (with_reducible refine Below.setCell ?_ (by simp <;> omega) _) | (with_reducible refine Below.drew ?_))⟩
    · go_enter Try.func35, Try.ntmps35
      go_wp2
      exact bodyPost_ret (v := .agg #[.int .i64 2, .int .i64 7, .int .i64 15, .int .i64 40]) (by simp [results, Try.results35, go_sem]) rfl ⟨rfl, by repeat (first | (with_reducible exact Below.refl _ _) | (with_reducible assumption) | (with_reducible refine Below.alloc ?_ (by simp <;> omega) _) | (with_reducible refine Below.setCell ?_ (by simp <;> omega) _) | (with_reducible refine Below.drew ?_))⟩
    · go_enter Try.func35, Try.ntmps35
      go_wp2
      exact bodyPost_ret (v := .agg #[.int .i64 2, .int .i64 3, .int .i64 7, .int .i64 20]) (by simp [results, Try.results35, go_sem]) rfl ⟨rfl, by repeat (first | (with_reducible exact Below.refl _ _) | (with_reducible assumption) | (with_reducible refine Below.alloc ?_ (by simp <;> omega) _) | (with_reducible refine Below.setCell ?_ (by simp <;> omega) _) | (with_reducible refine Below.drew ?_))⟩
  · have k0 : (c == 0) = false := by simp; omega
    have k1 : (c == 1) = false := by simp; omega
    have k2 : (c == 2) = false := by simp; omega
    have k3 : (c == 3) = false := by simp; omega
    simp only [pfA, pfM, pfX, pfB, pfV_out h0]
    clear h0
    go_enter Try.func35, Try.ntmps35
    go_wp2
    exact bodyPost_ret (v := .agg #[.int .i64 0, .int .i64 0, .int .i64 0, .int .i64 0]) (by simp [results, Try.results35, go_sem]) rfl ⟨rfl, by repeat (first | (with_reducible exact Below.refl _ _) | (with_reducible assumption) | (with_reducible refine Below.alloc ?_ (by simp <;> omega) _) | (with_reducible refine Below.setCell ?_ (by simp <;> omega) _) | (with_reducible refine Below.drew ?_))⟩
end Go.Proofs.Ytkmklafjcjkpdaa
