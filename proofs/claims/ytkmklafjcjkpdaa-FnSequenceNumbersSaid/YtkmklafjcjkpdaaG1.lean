/- Contracts and walks of the laws over small numbers and small structs (part 1). -/
import Derived.Test.YtkmklafjcjkpdaaBase
import Derived.Test.YtkmklafjcjkpdaaInts
namespace Go.Proofs.Ytkmklafjcjkpdaa
open Go.RowKit
set_option linter.unusedVariables false
set_option linter.unusedSimpArgs false
def seqV (s : Int) : Int := if inB s 0 4095 then (s + 1) % 4096 else 0
theorem iNextSeq (a : Int) (w : World) : Calls Try.prog 23 #[.int .i64 a] w fun e w' => e = .returned (.int .i64 (seqV a)) ∧ w = w' := by
  by_cases h : inB a 0 4095 = true
  · have hb := inB_true h
    go_enter Try.func23, Try.ntmps23
    go_wp2_with (go_at_call 94; refine (iIn _ _ _ _).mono ?_; rintro e w' ⟨rfl, rfl⟩)
    all_goals go_ret
    all_goals exact ⟨by simp_all [seqV], rfl⟩
  · have h' : inB a 0 4095 = false := by simpa using h
    go_enter Try.func23, Try.ntmps23
    go_wp2_with (go_at_call 94; refine (iIn _ _ _ _).mono ?_; rintro e w' ⟨rfl, rfl⟩)
    all_goals go_ret
    all_goals exact ⟨by simp_all [seqV], rfl⟩
def distV (a b : Int) : Int := if inB a 0 4095 && inB b 0 4095 then (b - a) % 4096 else -1
theorem modV_4096 (p : Int) : modV p 4096 = p % 4096 := by simp [modV, inB]
theorem distV_bd {a b : Int} (h1 : inB a 0 4095 = true) (h2 : inB b 0 4095 = true) : distV a b = (b - a) % 4096 := by simp [distV, h1, h2]
theorem iDist (a b : Int) (w : World) : Calls Try.prog 21 #[.int .i64 a, .int .i64 b] w fun e w' => e = .returned (.int .i64 (distV a b)) ∧ w = w' := by
  by_cases h1 : inB a 0 4095 = true
  · by_cases h2 : inB b 0 4095 = true
    · have hb1 := inB_true h1
      have hb2 := inB_true h2
      go_enter Try.func21, Try.ntmps21
      go_wp2_with (first | (go_at_call 94; refine (iIn _ _ _ _).mono ?_; rintro e w' ⟨rfl, rfl⟩) | (go_at_call 96; refine (iMod _ _ _).mono ?_; rintro e w' ⟨rfl, rfl⟩))
      all_goals go_ret
      all_goals exact ⟨by simp_all [distV, modV_4096], rfl⟩
    · have h2' : inB b 0 4095 = false := by simpa using h2
      go_enter Try.func21, Try.ntmps21
      go_wp2_with (first | (go_at_call 94; refine (iIn _ _ _ _).mono ?_; rintro e w' ⟨rfl, rfl⟩) | (go_at_call 96; refine (iMod _ _ _).mono ?_; rintro e w' ⟨rfl, rfl⟩))
      all_goals go_ret
      all_goals exact ⟨by simp_all [distV], rfl⟩
  · have h1' : inB a 0 4095 = false := by simpa using h1
    go_enter Try.func21, Try.ntmps21
    go_wp2_with (first | (go_at_call 94; refine (iIn _ _ _ _).mono ?_; rintro e w' ⟨rfl, rfl⟩) | (go_at_call 96; refine (iMod _ _ _).mono ?_; rintro e w' ⟨rfl, rfl⟩))
    all_goals go_ret
    all_goals exact ⟨by simp_all [distV], rfl⟩
def newerV (a b : Int) : Bool := inB (distV b a) 1 2047
theorem iNewer (a b : Int) (w : World) : Calls Try.prog 22 #[.int .i64 a, .int .i64 b] w fun e w' => e = .returned (.bool (newerV a b)) ∧ w = w' := by
  go_enter Try.func22, Try.ntmps22
  go_wp2_with (first | (go_at_call 94; refine (iIn _ _ _ _).mono ?_; rintro e w' ⟨rfl, rfl⟩) | (go_at_call 21; refine (iDist _ _ _).mono ?_; rintro e w' ⟨rfl, rfl⟩))
  go_ret
  exact ⟨rfl, rfl⟩
def sizeV (n : Int) : Int := if inB n 0 200 then 4 + 4 * ceilV n 4 else 0
theorem ceilV_4 {n : Int} (h : inB n 0 200 = true) : 0 ≤ ceilV n 4 ∧ ceilV n 4 ≤ 50 := by
  have hb := inB_true h
  simp [ceilV, inB_mk (x := n) (a := 0) (b := 1000000000000) (by omega) (by omega), inB_mk (x := 4) (a := 1) (b := 1000000000000) (by omega) (by omega)]
  omega
theorem sizeV_bd (n : Int) : 0 ≤ sizeV n ∧ sizeV n ≤ 204 := by
  by_cases h : inB n 0 200 = true
  · have := ceilV_4 h
    simp [sizeV, h]
    omega
  · have h' : inB n 0 200 = false := by simpa using h
    simp [sizeV, h']
end Go.Proofs.Ytkmklafjcjkpdaa
