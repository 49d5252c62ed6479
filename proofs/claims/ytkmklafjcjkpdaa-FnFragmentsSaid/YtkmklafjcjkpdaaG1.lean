/- Contracts and walks of the laws over small numbers and small structs (part 1). -/
import Derived.Test.YtkmklafjcjkpdaaBase
import Derived.Test.YtkmklafjcjkpdaaInts
namespace Go.Proofs.Ytkmklafjcjkpdaa
open Go.RowKit
set_option linter.unusedVariables false
set_option linter.unusedSimpArgs false
def seqV (s : Int) : Int := if inB s 0 4095 then (s + 1) % 4096 else 0
theorem iNextSeq (a : Int) (w : World) : Calls Try.prog 23 #[.int .i64 a] w fun e w' => e = .returned (.int .i64 (seqV a)) ∧ w = w' := by
  by_cases h : inB a 0 4095 = true
  · have hb := inB_true h
    go_enter Try.func23, Try.ntmps23
    go_wp2_with (go_at_call 94; refine (iIn _ _ _ _).mono ?_; rintro e w' ⟨rfl, rfl⟩)
    all_goals go_ret
    all_goals exact ⟨by simp_all [seqV], rfl⟩
  · have h' : inB a 0 4095 = false := by simpa using h
    go_enter Try.func23, Try.ntmps23
    go_wp2_with (go_at_call 94; refine (iIn _ _ _ _).mono ?_; rintro e w' ⟨rfl, rfl⟩)
    all_goals go_ret
    all_goals exact ⟨by simp_all [seqV], rfl⟩
def distV (a b : Int) : Int := if inB a 0 4095 && inB b 0 4095 then (b - a) % 4096 else -1
theorem modV_4096 (p : Int) : modV p 4096 = p % 4096 := by simp [modV, inB]
theorem distV_bd {a b : Int} (h1 : inB a 0 4095 = true) (h2 : inB b 0 4095 = true) : distV a b = (b - a) % 4096 := by simp [distV, h1, h2]
theorem iDist (a b : Int) (w : World) : Calls Try.prog 21 #[.int .i64 a, .int .i64 b] w fun e w' => e = .returned (.int .i64 (distV a b)) ∧ w = w' := by
  by_cases h1 : inB a 0 4095 = true
  · by_cases h2 : inB b 0 4095 = true
    · have hb1 := inB_true h1
      have hb2 := inB_true h2
      go_enter Try.func21, Try.ntmps21
      go_wp2_with (first | (go_at_call 94; refine (iIn _ _ _ _).mono ?_; rintro e w' ⟨rfl, rfl⟩) | (go_at_call 96; refine (iMod _ _ _).mono ?_; rintro e w' ⟨rfl, rfl⟩))
      all_goals go_ret
      all_goals exact ⟨by simp_all [distV, modV_4096], rfl⟩
    · have h2' : inB b 0 4095 = false := by simpa using h2
      go_enter Try.func21, Try.ntmps21
      go_wp2_with (first | (go_at_call 94; refine (iIn _ _ _ _).mono ?_; rintro e w' ⟨rfl, rfl⟩) | (go_at_call 96; refine (iMod _ _ _).mono ?_; rintro e w' ⟨rfl, rfl⟩))
      all_goals go_ret
      all_goals exact ⟨by simp_all [distV], rfl⟩
  · have h1' : inB a 0 4095 = false := by simpa using h1
    go_enter Try.func21, Try.ntmps21
    go_wp2_with (first | (go_at_call 94; refine (iIn _ _ _ _).mono ?_; rintro e w' ⟨rfl, rfl⟩) | (go_at_call 96; refine (iMod _ _ _).mono ?_; rintro e w' ⟨rfl, rfl⟩))
    all_goals go_ret
    all_goals exact ⟨by simp_all [distV], rfl⟩
def newerV (a b : Int) : Bool := inB (distV b a) 1 2047
theorem iNewer (a b : Int) (w : World) : Calls Try.prog 22 #[.int .i64 a, .int .i64 b] w fun e w' => e = .returned (.bool (newerV a b)) ∧ w = w' := by
  go_enter Try.func22, Try.ntmps22
  go_wp2_with (first | (go_at_call 94; refine (iIn _ _ _ _).mono ?_; rintro e w' ⟨rfl, rfl⟩) | (go_at_call 21; refine (iDist _ _ _).mono ?_; rintro e w' ⟨rfl, rfl⟩))
  go_ret
  exact ⟨rfl, rfl⟩
def sizeV (n : Int) : Int := if inB n 0 200 then 4 + 4 * ceilV n 4 else 0
theorem ceilV_4 {n : Int} (h : inB n 0 200 = true) : 0 ≤ ceilV n 4 ∧ ceilV n 4 ≤ 50 := by
  have hb := inB_true h
  simp [ceilV, inB_mk (x := n) (a := 0) (b := 1000000000000) (by omega) (by omega), inB_mk (x := 4) (a := 1) (b := 1000000000000) (by omega) (by omega)]
  omega
theorem sizeV_bd (n : Int) : 0 ≤ sizeV n ∧ sizeV n ≤ 204 := by
  by_cases h : inB n 0 200 = true
  · have := ceilV_4 h
    simp [sizeV, h]
    omega
  · have h' : inB n 0 200 = false := by simpa using h
    simp [sizeV, h']
def nameV (c : Int) : ByteArray :=
  if c = 0 then ⟨#[98, 97, 99, 107, 103, 114, 111, 117, 110, 100]⟩ else if c = 1 then ⟨#[98, 101, 115, 116, 45, 101, 102, 102, 111, 114, 116]⟩
  else if c = 2 then ⟨#[118, 105, 100, 101, 111]⟩ else if c = 3 then ⟨#[118, 111, 105, 99, 101]⟩ else ⟨#[]⟩
theorem iName (c : Int) (w : World) : Calls Try.prog 36 #[.int .i64 c] w fun e w' => e = .returned (.string (nameV c)) ∧ w = w' := by
  by_cases h0 : c = 0 ∨ c = 1 ∨ c = 2 ∨ c = 3
  · rcases h0 with rfl | rfl | rfl | rfl
    all_goals
      go_enter Try.func36, Try.ntmps36
      go_wp2
      all_goals go_ret
      all_goals exact ⟨rfl, rfl⟩
  · have e1 : nameV c = ⟨#[]⟩ := by simp only [nameV]; rw [if_neg (by omega), if_neg (by omega), if_neg (by omega), if_neg (by omega)]
    have k0 : (c == 0) = false := by simp; omega
    have k1 : (c == 1) = false := by simp; omega
    have k2 : (c == 2) = false := by simp; omega
    have k3 : (c == 3) = false := by simp; omega
    rw [e1]
    clear e1 h0
    go_enter Try.func36, Try.ntmps36
    go_wp2
    all_goals go_ret
    all_goals exact ⟨rfl, rfl⟩
def prioV (p : Int) : Int :=
  if p = 1 ∨ p = 2 then 0 else if p = 0 ∨ p = 3 then 1 else if p = 4 ∨ p = 5 then 2 else if p = 6 ∨ p = 7 then 3 else -1
theorem prioV_out {c : Int} (h : c < 0 ∨ 7 < c) : prioV c = -1 := by simp only [prioV]; rw [if_neg (by omega), if_neg (by omega), if_neg (by omega), if_neg (by omega)]
theorem iPrio (c : Int) (w : World) : Calls Try.prog 38 #[.int .i64 c] w fun e w' => e = .returned (.int .i64 (prioV c)) ∧ w = w' := by
  by_cases h0 : 0 ≤ c ∧ c ≤ 7
  · have h1 : c = 0 ∨ c = 1 ∨ c = 2 ∨ c = 3 ∨ c = 4 ∨ c = 5 ∨ c = 6 ∨ c = 7 := by omega
    clear h0
    rcases h1 with rfl | rfl | rfl | rfl | rfl | rfl | rfl | rfl
    all_goals
      go_enter Try.func38, Try.ntmps38
      go_wp2
      all_goals go_ret
      all_goals exact ⟨rfl, rfl⟩
  · rw [prioV_out (by omega)]
    have k0 : (c == 0) = false := by simp; omega
    have k1 : (c == 1) = false := by simp; omega
    have k2 : (c == 2) = false := by simp; omega
    have k3 : (c == 3) = false := by simp; omega
    have k4 : (c == 4) = false := by simp; omega
    have k5 : (c == 5) = false := by simp; omega
    have k6 : (c == 6) = false := by simp; omega
    have k7 : (c == 7) = false := by simp; omega
    clear h0
    go_enter Try.func38, Try.ntmps38
    go_wp2
    all_goals go_ret
    all_goals exact ⟨rfl, rfl⟩
end Go.Proofs.Ytkmklafjcjkpdaa
