/- Contracts of the small functions on integers: each says what the call returns, for all arguments; the world stays as it was. -/
import Derived.Test.YtkmklafjcjkpdaaChecked
import Derived.WalkKit
import Derived.Lib.Hide
import Derived.IntWalk
namespace Go.Proofs.Ytkmklafjcjkpdaa
open Go.RowKit
def inB (x a b : Int) : Bool := decide (a ≤ x) && decide (x ≤ b)
theorem inB_true {x a b : Int} (h : inB x a b = true) : a ≤ x ∧ x ≤ b := by simpa [inB] using h
theorem inB_false {x a b : Int} (h : inB x a b = false) : x < a ∨ b < x := by simp [inB] at h; omega
theorem inB_mk {x a b : Int} (h1 : a ≤ x) (h2 : x ≤ b) : inB x a b = true := by simp [inB, h1, h2]
theorem inB_not {x a b : Int} (h : x < a ∨ b < x) : inB x a b = false := by simp [inB]; omega
theorem wf_bd {n : Int} (h : (Lit.int .i64 n).wf = true) : -9223372036854775808 ≤ n ∧ n ≤ 9223372036854775807 := by
  simp [Lit.wf, IntKind.min, IntKind.max, IntKind.bits, IntKind.signed] at h
  omega
theorem sIn (x a b : Int) (w : World) : Calls Try.prog 92 #[.int .i64 x, .int .i64 a, .int .i64 b] w fun e w' => e = .returned (.bool (inB x a b)) ∧ w = w' := by
  go_enter Try.func92, Try.ntmps92
  go_wp2
  all_goals go_ret
  all_goals exact ⟨by simp [inB, *] <;> omega, rfl⟩
theorem iIn (x a b : Int) (w : World) : Calls Try.prog 94 #[.int .i64 x, .int .i64 a, .int .i64 b] w fun e w' => e = .returned (.bool (inB x a b)) ∧ w = w' := by
  go_enter Try.func94, Try.ntmps94
  go_wp2
  all_goals go_ret
  all_goals exact ⟨by simp [inB, *] <;> omega, rfl⟩
theorem iStation (x : Int) (w : World) : Calls Try.prog 116 #[.int .i64 x] w fun e w' => e = .returned (.bool (inB x 0 15)) ∧ w = w' := by
  go_enter Try.func116, Try.ntmps116
  go_wp2_with (go_at_call 94; refine (iIn _ _ _ _).mono ?_; rintro e w' ⟨rfl, rfl⟩)
  go_ret
  exact ⟨rfl, rfl⟩
theorem iCat (x : Int) (w : World) : Calls Try.prog 97 #[.int .i64 x] w fun e w' => e = .returned (.bool (inB x 0 3)) ∧ w = w' := by
  go_enter Try.func97, Try.ntmps97
  go_wp2_with (go_at_call 94; refine (iIn _ _ _ _).mono ?_; rintro e w' ⟨rfl, rfl⟩)
  go_ret
  exact ⟨rfl, rfl⟩
theorem sMax (a b : Int) (w : World) : Calls Try.prog 68 #[.int .i64 a, .int .i64 b] w fun e w' => e = .returned (.int .i64 (max a b)) ∧ w = w' := by
  go_enter Try.func68, Try.ntmps68
  go_wp2
  all_goals go_ret
  all_goals exact ⟨by simp <;> omega, rfl⟩
theorem iMax (a b : Int) (w : World) : Calls Try.prog 107 #[.int .i64 a, .int .i64 b] w fun e w' => e = .returned (.int .i64 (max a b)) ∧ w = w' := by
  go_enter Try.func107, Try.ntmps107
  go_wp2
  all_goals go_ret
  all_goals exact ⟨by simp <;> omega, rfl⟩
theorem sMin (a b : Int) (w : World) : Calls Try.prog 123 #[.int .i64 a, .int .i64 b] w fun e w' => e = .returned (.int .i64 (min a b)) ∧ w = w' := by
  go_enter Try.func123, Try.ntmps123
  go_wp2
  all_goals go_ret
  all_goals exact ⟨by simp <;> omega, rfl⟩
theorem iMin (a b : Int) (w : World) : Calls Try.prog 100 #[.int .i64 a, .int .i64 b] w fun e w' => e = .returned (.int .i64 (min a b)) ∧ w = w' := by
  go_enter Try.func100, Try.ntmps100
  go_wp2
  all_goals go_ret
  all_goals exact ⟨by simp <;> omega, rfl⟩
def winB (n : Int) : Bool := inB n 1 1023 && (bits .and .i64 n (n + 1) == 0)
theorem sWindow (n : Int) (w : World) : Calls Try.prog 105 #[.int .i64 n] w fun e w' => e = .returned (.bool (winB n)) ∧ w = w' := by
  by_cases h : inB n 1 1023 = true
  · have hb := inB_true h
    go_enter Try.func105, Try.ntmps105
    go_wp2_with (go_at_call 92; refine (sIn _ _ _ _).mono ?_; rintro e w' ⟨rfl, rfl⟩)
    all_goals go_ret
    all_goals exact ⟨by simp_all [winB], rfl⟩
  · have h' : inB n 1 1023 = false := by simpa using h
    go_enter Try.func105, Try.ntmps105
    go_wp2_with (go_at_call 92; refine (sIn _ _ _ _).mono ?_; rintro e w' ⟨rfl, rfl⟩)
    all_goals go_ret
    all_goals exact ⟨by simp_all [winB], rfl⟩
theorem iWindow (n : Int) (w : World) : Calls Try.prog 106 #[.int .i64 n] w fun e w' => e = .returned (.bool (winB n)) ∧ w = w' := by
  by_cases h : inB n 1 1023 = true
  · have hb := inB_true h
    go_enter Try.func106, Try.ntmps106
    go_wp2_with (go_at_call 94; refine (iIn _ _ _ _).mono ?_; rintro e w' ⟨rfl, rfl⟩)
    all_goals go_ret
    all_goals exact ⟨by simp_all [winB], rfl⟩
  · have h' : inB n 1 1023 = false := by simpa using h
    go_enter Try.func106, Try.ntmps106
    go_wp2_with (go_at_call 94; refine (iIn _ _ _ _).mono ?_; rintro e w' ⟨rfl, rfl⟩)
    all_goals go_ret
    all_goals exact ⟨by simp_all [winB], rfl⟩
def ceilV (a b : Int) : Int := if inB a 0 1000000000000 && inB b 1 1000000000000 then (a + b - 1) / b else 0
theorem sCeil (a b : Int) (w : World) : Calls Try.prog 138 #[.int .i64 a, .int .i64 b] w fun e w' => e = .returned (.int .i64 (ceilV a b)) ∧ w = w' := by
  by_cases h1 : inB a 0 1000000000000 = true
  · by_cases h2 : inB b 1 1000000000000 = true
    · have hb1 := inB_true h1
      have hb2 := inB_true h2
      go_enter Try.func138, Try.ntmps138
      go_wp2_with (go_at_call 92; refine (sIn _ _ _ _).mono ?_; rintro e w' ⟨rfl, rfl⟩)
      all_goals go_ret
      all_goals exact ⟨by simp_all [ceilV], rfl⟩
    · have h2' : inB b 1 1000000000000 = false := by simpa using h2
      go_enter Try.func138, Try.ntmps138
      go_wp2_with (go_at_call 92; refine (sIn _ _ _ _).mono ?_; rintro e w' ⟨rfl, rfl⟩)
      all_goals go_ret
      all_goals exact ⟨by simp_all [ceilV], rfl⟩
  · have h1' : inB a 0 1000000000000 = false := by simpa using h1
    go_enter Try.func138, Try.ntmps138
    go_wp2_with (go_at_call 92; refine (sIn _ _ _ _).mono ?_; rintro e w' ⟨rfl, rfl⟩)
    all_goals go_ret
    all_goals exact ⟨by simp_all [ceilV], rfl⟩
theorem iCeil (a b : Int) (w : World) : Calls Try.prog 130 #[.int .i64 a, .int .i64 b] w fun e w' => e = .returned (.int .i64 (ceilV a b)) ∧ w = w' := by
  by_cases h1 : inB a 0 1000000000000 = true
  · by_cases h2 : inB b 1 1000000000000 = true
    · have hb1 := inB_true h1
      have hb2 := inB_true h2
      go_enter Try.func130, Try.ntmps130
      go_wp2_with (go_at_call 94; refine (iIn _ _ _ _).mono ?_; rintro e w' ⟨rfl, rfl⟩)
      all_goals go_ret
      all_goals exact ⟨by simp_all [ceilV], rfl⟩
    · have h2' : inB b 1 1000000000000 = false := by simpa using h2
      go_enter Try.func130, Try.ntmps130
      go_wp2_with (go_at_call 94; refine (iIn _ _ _ _).mono ?_; rintro e w' ⟨rfl, rfl⟩)
      all_goals go_ret
      all_goals exact ⟨by simp_all [ceilV], rfl⟩
  · have h1' : inB a 0 1000000000000 = false := by simpa using h1
    go_enter Try.func130, Try.ntmps130
    go_wp2_with (go_at_call 94; refine (iIn _ _ _ _).mono ?_; rintro e w' ⟨rfl, rfl⟩)
    all_goals go_ret
    all_goals exact ⟨by simp_all [ceilV], rfl⟩
def modV (p q : Int) : Int := if inB q 1 1000000000000 then p % q else 0
theorem mod_three (p q : Int) : p.tmod q % q = p % q := by
  have e : p.tmod q = p + q * (-(p.tdiv q)) := by have := Int.tmod_add_mul_tdiv p q; rw [Int.mul_neg]; omega
  rw [e, Int.add_mul_emod_self_left]
theorem mod_one (p q : Int) (h : 1 ≤ q) (hn : p.tmod q < 0) : p.tmod q + q = p % q := by
  have t := Int.lt_tmod_of_pos p (show 0 < q by omega)
  have e := mod_three p q
  rw [← e, ← Int.add_emod_right]
  exact (Int.emod_eq_of_lt (by omega) (by omega)).symm
theorem mod_zero (p q : Int) (h : 1 ≤ q) (hn : 0 ≤ p.tmod q) : p.tmod q = p % q := by
  have e : p = p.tmod q + q * p.tdiv q := by have := Int.tmod_add_mul_tdiv p q; omega
  conv => rhs; rw [e, Int.add_mul_emod_self_left]
  rw [Int.emod_eq_of_lt hn (Int.tmod_lt_of_pos p (by omega))]
theorem sMod (p q : Int) (w : World) : Calls Try.prog 166 #[.int .i64 p, .int .i64 q] w fun e w' => e = .returned (.int .i64 (modV p q)) ∧ w = w' := by
  by_cases h : inB q 1 1000000000000 = true
  · have hb := inB_true h
    have t1 := Int.lt_tmod_of_pos p (show 0 < q by omega)
    have t2 := Int.tmod_lt_of_pos p (show 0 < q by omega)
    go_enter Try.func166, Try.ntmps166
    go_wp2_with (go_at_call 92; refine (sIn _ _ _ _).mono ?_; rintro e w' ⟨rfl, rfl⟩)
    all_goals go_ret
    all_goals exact ⟨by simp [modV, h, mod_three], rfl⟩
  · have h' : inB q 1 1000000000000 = false := by simpa using h
    go_enter Try.func166, Try.ntmps166
    go_wp2_with (go_at_call 92; refine (sIn _ _ _ _).mono ?_; rintro e w' ⟨rfl, rfl⟩)
    all_goals go_ret
    all_goals exact ⟨by simp_all [modV], rfl⟩
theorem iMod (p q : Int) (w : World) : Calls Try.prog 96 #[.int .i64 p, .int .i64 q] w fun e w' => e = .returned (.int .i64 (modV p q)) ∧ w = w' := by
  by_cases h : inB q 1 1000000000000 = true
  · have hb := inB_true h
    have t1 := Int.lt_tmod_of_pos p (show 0 < q by omega)
    have t2 := Int.tmod_lt_of_pos p (show 0 < q by omega)
    by_cases hn : p.tmod q < 0
    · have hm := Lib.hid (mod_one p q hb.1 hn)
      go_enter Try.func96, Try.ntmps96
      go_wp2_with (go_at_call 94; refine (iIn _ _ _ _).mono ?_; rintro e w' ⟨rfl, rfl⟩)
      all_goals go_ret
      all_goals exact ⟨by simp [modV, h, ← hm.out], rfl⟩
    · have hm := Lib.hid (mod_zero p q hb.1 (by omega))
      go_enter Try.func96, Try.ntmps96
      go_wp2_with (go_at_call 94; refine (iIn _ _ _ _).mono ?_; rintro e w' ⟨rfl, rfl⟩)
      all_goals go_ret
      all_goals exact ⟨by simp [modV, h, ← hm.out], rfl⟩
  · have h' : inB q 1 1000000000000 = false := by simpa using h
    go_enter Try.func96, Try.ntmps96
    go_wp2_with (go_at_call 94; refine (iIn _ _ _ _).mono ?_; rintro e w' ⟨rfl, rfl⟩)
    all_goals go_ret
    all_goals exact ⟨by simp_all [modV], rfl⟩
end Go.Proofs.Ytkmklafjcjkpdaa
