/- Contracts of the small functions on integers: each says what the call returns, for all arguments; the world stays as it was. -/
import Derived.Test.YtbllfbgabefagaaChecked
import Derived.WalkKit
import Derived.Lib.Hide
import Derived.IntWalk
namespace Go.Proofs.Ytbllfbgabefagaa
open Go.RowKit
def inB (x a b : Int) : Bool := decide (a ≤ x) && decide (x ≤ b)
theorem inB_true {x a b : Int} (h : inB x a b = true) : a ≤ x ∧ x ≤ b := by simpa [inB] using h
theorem inB_false {x a b : Int} (h : inB x a b = false) : x < a ∨ b < x := by simp [inB] at h; omega
theorem inB_mk {x a b : Int} (h1 : a ≤ x) (h2 : x ≤ b) : inB x a b = true := by simp [inB, h1, h2]
theorem inB_not {x a b : Int} (h : x < a ∨ b < x) : inB x a b = false := by simp [inB]; omega
theorem wf_bd {n : Int} (h : (Lit.int .i64 n).wf = true) : -9223372036854775808 ≤ n ∧ n ≤ 9223372036854775807 := by
  simp [Lit.wf, IntKind.min, IntKind.max, IntKind.bits, IntKind.signed] at h
  omega
theorem sIn (x a b : Int) (w : World) : Calls Try.prog 23 #[.int .i64 x, .int .i64 a, .int .i64 b] w fun e w' => e = .returned (.bool (inB x a b)) ∧ w = w' := by
  go_enter Try.func23, Try.ntmps23
  go_wp2
  all_goals go_ret
  all_goals exact ⟨by simp [inB, *] <;> omega, rfl⟩
theorem sMax (a b : Int) (w : World) : Calls Try.prog 24 #[.int .i64 a, .int .i64 b] w fun e w' => e = .returned (.int .i64 (max a b)) ∧ w = w' := by
  go_enter Try.func24, Try.ntmps24
  go_wp2
  all_goals go_ret
  all_goals exact ⟨by simp <;> omega, rfl⟩
theorem iMax (a b : Int) (w : World) : Calls Try.prog 26 #[.int .i64 a, .int .i64 b] w fun e w' => e = .returned (.int .i64 (max a b)) ∧ w = w' := by
  go_enter Try.func26, Try.ntmps26
  go_wp2
  all_goals go_ret
  all_goals exact ⟨by simp <;> omega, rfl⟩
theorem sMin (a b : Int) (w : World) : Calls Try.prog 25 #[.int .i64 a, .int .i64 b] w fun e w' => e = .returned (.int .i64 (min a b)) ∧ w = w' := by
  go_enter Try.func25, Try.ntmps25
  go_wp2
  all_goals go_ret
  all_goals exact ⟨by simp <;> omega, rfl⟩
theorem iMin (a b : Int) (w : World) : Calls Try.prog 27 #[.int .i64 a, .int .i64 b] w fun e w' => e = .returned (.int .i64 (min a b)) ∧ w = w' := by
  go_enter Try.func27, Try.ntmps27
  go_wp2
  all_goals go_ret
  all_goals exact ⟨by simp <;> omega, rfl⟩
def winB (n : Int) : Bool := inB n 1 1023 && (bits .and .i64 n (n + 1) == 0)
def ceilV (a b : Int) : Int := if inB a 0 1000000000000 && inB b 1 1000000000000 then (a + b - 1) / b else 0
def modV (p q : Int) : Int := if inB q 1 1000000000000 then p % q else 0
theorem mod_three (p q : Int) : p.tmod q % q = p % q := by
  have e : p.tmod q = p + q * (-(p.tdiv q)) := by have := Int.tmod_add_mul_tdiv p q; rw [Int.mul_neg]; omega
  rw [e, Int.add_mul_emod_self_left]
theorem mod_one (p q : Int) (h : 1 ≤ q) (hn : p.tmod q < 0) : p.tmod q + q = p % q := by
  have t := Int.lt_tmod_of_pos p (show 0 < q by omega)
  have e := mod_three p q
  rw [← e, ← Int.add_emod_right]
  exact (Int.emod_eq_of_lt (by omega) (by omega)).symm
theorem mod_zero (p q : Int) (h : 1 ≤ q) (hn : 0 ≤ p.tmod q) : p.tmod q = p % q := by
  have e : p = p.tmod q + q * p.tdiv q := by have := Int.tmod_add_mul_tdiv p q; omega
  conv => rhs; rw [e, Int.add_mul_emod_self_left]
  rw [Int.emod_eq_of_lt hn (Int.tmod_lt_of_pos p (by omega))]
end Go.Proofs.Ytbllfbgabefagaa
