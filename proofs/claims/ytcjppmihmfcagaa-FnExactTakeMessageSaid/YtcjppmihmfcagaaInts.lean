/- Contracts of the small functions on integers: each says what the call returns, for all arguments; the world stays as it was. -/
import Derived.Test.YtcjppmihmfcagaaChecked
import Derived.WalkKit
import Derived.Lib.Hide
import Derived.IntWalk
namespace Go.Proofs.Ytcjppmihmfcagaa
open Go.RowKit
def inB (x a b : Int) : Bool := decide (a ≤ x) && decide (x ≤ b)
theorem inB_true {x a b : Int} (h : inB x a b = true) : a ≤ x ∧ x ≤ b := by simpa [inB] using h
theorem inB_false {x a b : Int} (h : inB x a b = false) : x < a ∨ b < x := by simp [inB] at h; omega
theorem inB_mk {x a b : Int} (h1 : a ≤ x) (h2 : x ≤ b) : inB x a b = true := by simp [inB, h1, h2]
theorem inB_not {x a b : Int} (h : x < a ∨ b < x) : inB x a b = false := by simp [inB]; omega
theorem wf_bd {n : Int} (h : (Lit.int .i64 n).wf = true) : -9223372036854775808 ≤ n ∧ n ≤ 9223372036854775807 := by
  simp [Lit.wf, IntKind.min, IntKind.max, IntKind.bits, IntKind.signed] at h
  omega
theorem sIn (x a b : Int) (w : World) : Calls Try.prog 63 #[.int .i64 x, .int .i64 a, .int .i64 b] w fun e w' => e = .returned (.bool (inB x a b)) ∧ w = w' := by
  go_enter Try.func63, Try.ntmps63
  go_wp2
  all_goals go_ret
  all_goals exact ⟨by simp [inB, *] <;> omega, rfl⟩
theorem iIn (x a b : Int) (w : World) : Calls Try.prog 65 #[.int .i64 x, .int .i64 a, .int .i64 b] w fun e w' => e = .returned (.bool (inB x a b)) ∧ w = w' := by
  go_enter Try.func65, Try.ntmps65
  go_wp2
  all_goals go_ret
  all_goals exact ⟨by simp [inB, *] <;> omega, rfl⟩
theorem iStation (x : Int) (w : World) : Calls Try.prog 97 #[.int .i64 x] w fun e w' => e = .returned (.bool (inB x 0 15)) ∧ w = w' := by
  go_enter Try.func97, Try.ntmps97
  go_wp2_with (go_at_call 65; refine (iIn _ _ _ _).mono ?_; rintro e w' ⟨rfl, rfl⟩)
  go_ret
  exact ⟨rfl, rfl⟩
theorem iCat (x : Int) (w : World) : Calls Try.prog 98 #[.int .i64 x] w fun e w' => e = .returned (.bool (inB x 0 3)) ∧ w = w' := by
  go_enter Try.func98, Try.ntmps98
  go_wp2_with (go_at_call 65; refine (iIn _ _ _ _).mono ?_; rintro e w' ⟨rfl, rfl⟩)
  go_ret
  exact ⟨rfl, rfl⟩
theorem sMax (a b : Int) (w : World) : Calls Try.prog 99 #[.int .i64 a, .int .i64 b] w fun e w' => e = .returned (.int .i64 (max a b)) ∧ w = w' := by
  go_enter Try.func99, Try.ntmps99
  go_wp2
  all_goals go_ret
  all_goals exact ⟨by simp <;> omega, rfl⟩
theorem sMin (a b : Int) (w : World) : Calls Try.prog 94 #[.int .i64 a, .int .i64 b] w fun e w' => e = .returned (.int .i64 (min a b)) ∧ w = w' := by
  go_enter Try.func94, Try.ntmps94
  go_wp2
  all_goals go_ret
  all_goals exact ⟨by simp <;> omega, rfl⟩
theorem iMin (a b : Int) (w : World) : Calls Try.prog 96 #[.int .i64 a, .int .i64 b] w fun e w' => e = .returned (.int .i64 (min a b)) ∧ w = w' := by
  go_enter Try.func96, Try.ntmps96
  go_wp2
  all_goals go_ret
  all_goals exact ⟨by simp <;> omega, rfl⟩
def winB (n : Int) : Bool := inB n 1 1023 && (bits .and .i64 n (n + 1) == 0)
def ceilV (a b : Int) : Int := if inB a 0 1000000000000 && inB b 1 1000000000000 then (a + b - 1) / b else 0
theorem sCeil (a b : Int) (w : World) : Calls Try.prog 100 #[.int .i64 a, .int .i64 b] w fun e w' => e = .returned (.int .i64 (ceilV a b)) ∧ w = w' := by
  by_cases h1 : inB a 0 1000000000000 = true
  · by_cases h2 : inB b 1 1000000000000 = true
    · have hb1 := inB_true h1
      have hb2 := inB_true h2
      go_enter Try.func100, Try.ntmps100
      go_wp2_with (go_at_call 63; refine (sIn _ _ _ _).mono ?_; rintro e w' ⟨rfl, rfl⟩)
      all_goals go_ret
      all_goals exact ⟨by simp_all [ceilV], rfl⟩
    · have h2' : inB b 1 1000000000000 = false := by simpa using h2
      go_enter Try.func100, Try.ntmps100
      go_wp2_with (go_at_call 63; refine (sIn _ _ _ _).mono ?_; rintro e w' ⟨rfl, rfl⟩)
      all_goals go_ret
      all_goals exact ⟨by simp_all [ceilV], rfl⟩
  · have h1' : inB a 0 1000000000000 = false := by simpa using h1
    go_enter Try.func100, Try.ntmps100
    go_wp2_with (go_at_call 63; refine (sIn _ _ _ _).mono ?_; rintro e w' ⟨rfl, rfl⟩)
    all_goals go_ret
    all_goals exact ⟨by simp_all [ceilV], rfl⟩
theorem iCeil (a b : Int) (w : World) : Calls Try.prog 101 #[.int .i64 a, .int .i64 b] w fun e w' => e = .returned (.int .i64 (ceilV a b)) ∧ w = w' := by
  by_cases h1 : inB a 0 1000000000000 = true
  · by_cases h2 : inB b 1 1000000000000 = true
    · have hb1 := inB_true h1
      have hb2 := inB_true h2
      go_enter Try.func101, Try.ntmps101
      go_wp2_with (go_at_call 65; refine (iIn _ _ _ _).mono ?_; rintro e w' ⟨rfl, rfl⟩)
      all_goals go_ret
      all_goals exact ⟨by simp_all [ceilV], rfl⟩
    · have h2' : inB b 1 1000000000000 = false := by simpa using h2
      go_enter Try.func101, Try.ntmps101
      go_wp2_with (go_at_call 65; refine (iIn _ _ _ _).mono ?_; rintro e w' ⟨rfl, rfl⟩)
      all_goals go_ret
      all_goals exact ⟨by simp_all [ceilV], rfl⟩
  · have h1' : inB a 0 1000000000000 = false := by simpa using h1
    go_enter Try.func101, Try.ntmps101
    go_wp2_with (go_at_call 65; refine (iIn _ _ _ _).mono ?_; rintro e w' ⟨rfl, rfl⟩)
    all_goals go_ret
    all_goals exact ⟨by simp_all [ceilV], rfl⟩
def modV (p q : Int) : Int := if inB q 1 1000000000000 then p % q else 0
theorem mod_three (p q : Int) : p.tmod q % q = p % q := by
  have e : p.tmod q = p + q * (-(p.tdiv q)) := by have := Int.tmod_add_mul_tdiv p q; rw [Int.mul_neg]; omega
  rw [e, Int.add_mul_emod_self_left]
theorem mod_one (p q : Int) (h : 1 ≤ q) (hn : p.tmod q < 0) : p.tmod q + q = p % q := by
  have t := Int.lt_tmod_of_pos p (show 0 < q by omega)
  have e := mod_three p q
  rw [← e, ← Int.add_emod_right]
  exact (Int.emod_eq_of_lt (by omega) (by omega)).symm
theorem mod_zero (p q : Int) (h : 1 ≤ q) (hn : 0 ≤ p.tmod q) : p.tmod q = p % q := by
  have e : p = p.tmod q + q * p.tdiv q := by have := Int.tmod_add_mul_tdiv p q; omega
  conv => rhs; rw [e, Int.add_mul_emod_self_left]
  rw [Int.emod_eq_of_lt hn (Int.tmod_lt_of_pos p (by omega))]
end Go.Proofs.Ytcjppmihmfcagaa
