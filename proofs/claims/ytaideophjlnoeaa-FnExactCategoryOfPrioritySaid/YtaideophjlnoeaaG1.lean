/- Contracts and walks of the laws over small numbers and small structs (part 1). -/
import Derived.Test.YtaideophjlnoeaaBase
import Derived.Test.YtaideophjlnoeaaInts
namespace Go.Proofs.Ytaideophjlnoeaa
open Go.RowKit
set_option linter.unusedVariables false
set_option linter.unusedSimpArgs false
theorem walk_FnExactGrantDuration (a0 : Int) (w : World) (w0 : (Lit.int .i64 a0).wf = true) :
    Calls Try.prog 3 #[.int .i64 a0] w fun e w' => e = .returned (.bool true) ∧ Below w.heap.size w w' := by
  go_enter Try.func3, Try.ntmps3
  go_wp2_with (first | (go_at_call 15; refine (sGrant _ w0 _).mono ?_; rintro e w' ⟨rfl, rfl⟩) | (go_at_call 16; refine (iGrant _ w0 _).mono ?_; rintro e w' ⟨rfl, rfl⟩))
  go_ret
  exact ⟨rfl, Below.refl _ _⟩
def seqV (s : Int) : Int := if inB s 0 4095 then (s + 1) % 4096 else 0
theorem sNextSeq (a : Int) (w : World) : Calls Try.prog 17 #[.int .i64 a] w fun e w' => e = .returned (.int .i64 (seqV a)) ∧ w = w' := by
  by_cases h : inB a 0 4095 = true
  · have hb := inB_true h
    go_enter Try.func17, Try.ntmps17
    go_wp2_with (go_at_call 44; refine (sIn _ _ _ _).mono ?_; rintro e w' ⟨rfl, rfl⟩)
    all_goals go_ret
    all_goals exact ⟨by simp_all [seqV], rfl⟩
  · have h' : inB a 0 4095 = false := by simpa using h
    go_enter Try.func17, Try.ntmps17
    go_wp2_with (go_at_call 44; refine (sIn _ _ _ _).mono ?_; rintro e w' ⟨rfl, rfl⟩)
    all_goals go_ret
    all_goals exact ⟨by simp_all [seqV], rfl⟩
theorem iNextSeq (a : Int) (w : World) : Calls Try.prog 18 #[.int .i64 a] w fun e w' => e = .returned (.int .i64 (seqV a)) ∧ w = w' := by
  by_cases h : inB a 0 4095 = true
  · have hb := inB_true h
    go_enter Try.func18, Try.ntmps18
    go_wp2_with (go_at_call 45; refine (iIn _ _ _ _).mono ?_; rintro e w' ⟨rfl, rfl⟩)
    all_goals go_ret
    all_goals exact ⟨by simp_all [seqV], rfl⟩
  · have h' : inB a 0 4095 = false := by simpa using h
    go_enter Try.func18, Try.ntmps18
    go_wp2_with (go_at_call 45; refine (iIn _ _ _ _).mono ?_; rintro e w' ⟨rfl, rfl⟩)
    all_goals go_ret
    all_goals exact ⟨by simp_all [seqV], rfl⟩
theorem walk_FnExactNextSeq (a0 : Int) (w : World) (w0 : (Lit.int .i64 a0).wf = true) :
    Calls Try.prog 4 #[.int .i64 a0] w fun e w' => e = .returned (.bool true) ∧ Below w.heap.size w w' := by
  go_enter Try.func4, Try.ntmps4
  go_wp2_with (first | (go_at_call 17; refine (sNextSeq _ _).mono ?_; rintro e w' ⟨rfl, rfl⟩) | (go_at_call 18; refine (iNextSeq _ _).mono ?_; rintro e w' ⟨rfl, rfl⟩))
  go_ret
  exact ⟨rfl, Below.refl _ _⟩
def distV (a b : Int) : Int := if inB a 0 4095 && inB b 0 4095 then (b - a) % 4096 else -1
theorem modV_4096 (p : Int) : modV p 4096 = p % 4096 := by simp [modV, inB]
theorem distV_bd {a b : Int} (h1 : inB a 0 4095 = true) (h2 : inB b 0 4095 = true) : distV a b = (b - a) % 4096 := by simp [distV, h1, h2]
theorem sDist (a b : Int) (w : World) : Calls Try.prog 34 #[.int .i64 a, .int .i64 b] w fun e w' => e = .returned (.int .i64 (distV a b)) ∧ w = w' := by
  by_cases h1 : inB a 0 4095 = true
  · by_cases h2 : inB b 0 4095 = true
    · have hb1 := inB_true h1
      have hb2 := inB_true h2
      go_enter Try.func34, Try.ntmps34
      go_wp2_with (first | (go_at_call 44; refine (sIn _ _ _ _).mono ?_; rintro e w' ⟨rfl, rfl⟩) | (go_at_call 51; refine (sMod _ _ _).mono ?_; rintro e w' ⟨rfl, rfl⟩))
      all_goals go_ret
      all_goals exact ⟨by simp_all [distV, modV_4096], rfl⟩
    · have h2' : inB b 0 4095 = false := by simpa using h2
      go_enter Try.func34, Try.ntmps34
      go_wp2_with (first | (go_at_call 44; refine (sIn _ _ _ _).mono ?_; rintro e w' ⟨rfl, rfl⟩) | (go_at_call 51; refine (sMod _ _ _).mono ?_; rintro e w' ⟨rfl, rfl⟩))
      all_goals go_ret
      all_goals exact ⟨by simp_all [distV], rfl⟩
  · have h1' : inB a 0 4095 = false := by simpa using h1
    go_enter Try.func34, Try.ntmps34
    go_wp2_with (first | (go_at_call 44; refine (sIn _ _ _ _).mono ?_; rintro e w' ⟨rfl, rfl⟩) | (go_at_call 51; refine (sMod _ _ _).mono ?_; rintro e w' ⟨rfl, rfl⟩))
    all_goals go_ret
    all_goals exact ⟨by simp_all [distV], rfl⟩
theorem iDist (a b : Int) (w : World) : Calls Try.prog 35 #[.int .i64 a, .int .i64 b] w fun e w' => e = .returned (.int .i64 (distV a b)) ∧ w = w' := by
  by_cases h1 : inB a 0 4095 = true
  · by_cases h2 : inB b 0 4095 = true
    · have hb1 := inB_true h1
      have hb2 := inB_true h2
      go_enter Try.func35, Try.ntmps35
      go_wp2_with (first | (go_at_call 45; refine (iIn _ _ _ _).mono ?_; rintro e w' ⟨rfl, rfl⟩) | (go_at_call 52; refine (iMod _ _ _).mono ?_; rintro e w' ⟨rfl, rfl⟩))
      all_goals go_ret
      all_goals exact ⟨by simp_all [distV, modV_4096], rfl⟩
    · have h2' : inB b 0 4095 = false := by simpa using h2
      go_enter Try.func35, Try.ntmps35
      go_wp2_with (first | (go_at_call 45; refine (iIn _ _ _ _).mono ?_; rintro e w' ⟨rfl, rfl⟩) | (go_at_call 52; refine (iMod _ _ _).mono ?_; rintro e w' ⟨rfl, rfl⟩))
      all_goals go_ret
      all_goals exact ⟨by simp_all [distV], rfl⟩
  · have h1' : inB a 0 4095 = false := by simpa using h1
    go_enter Try.func35, Try.ntmps35
    go_wp2_with (first | (go_at_call 45; refine (iIn _ _ _ _).mono ?_; rintro e w' ⟨rfl, rfl⟩) | (go_at_call 52; refine (iMod _ _ _).mono ?_; rintro e w' ⟨rfl, rfl⟩))
    all_goals go_ret
    all_goals exact ⟨by simp_all [distV], rfl⟩
theorem walk_FnExactSeqDistance (a0 a1 : Int) (w : World) (w0 : (Lit.int .i64 a0).wf = true) (w1 : (Lit.int .i64 a1).wf = true) :
    Calls Try.prog 11 #[.int .i64 a0, .int .i64 a1] w fun e w' => e = .returned (.bool true) ∧ Below w.heap.size w w' := by
  go_enter Try.func11, Try.ntmps11
  go_wp2_with (first | (go_at_call 34; refine (sDist _ _ _).mono ?_; rintro e w' ⟨rfl, rfl⟩) | (go_at_call 35; refine (iDist _ _ _).mono ?_; rintro e w' ⟨rfl, rfl⟩))
  go_ret
  exact ⟨rfl, Below.refl _ _⟩
def newerV (a b : Int) : Bool := inB (distV b a) 1 2047
theorem sNewer (a b : Int) (w : World) : Calls Try.prog 38 #[.int .i64 a, .int .i64 b] w fun e w' => e = .returned (.bool (newerV a b)) ∧ w = w' := by
  go_enter Try.func38, Try.ntmps38
  go_wp2_with (first | (go_at_call 44; refine (sIn _ _ _ _).mono ?_; rintro e w' ⟨rfl, rfl⟩) | (go_at_call 34; refine (sDist _ _ _).mono ?_; rintro e w' ⟨rfl, rfl⟩))
  go_ret
  exact ⟨rfl, rfl⟩
theorem iNewer (a b : Int) (w : World) : Calls Try.prog 39 #[.int .i64 a, .int .i64 b] w fun e w' => e = .returned (.bool (newerV a b)) ∧ w = w' := by
  go_enter Try.func39, Try.ntmps39
  go_wp2_with (first | (go_at_call 45; refine (iIn _ _ _ _).mono ?_; rintro e w' ⟨rfl, rfl⟩) | (go_at_call 35; refine (iDist _ _ _).mono ?_; rintro e w' ⟨rfl, rfl⟩))
  go_ret
  exact ⟨rfl, rfl⟩
theorem walk_FnExactIsNewer (a0 a1 : Int) (w : World) (w0 : (Lit.int .i64 a0).wf = true) (w1 : (Lit.int .i64 a1).wf = true) :
    Calls Try.prog 13 #[.int .i64 a0, .int .i64 a1] w fun e w' => e = .returned (.bool true) ∧ Below w.heap.size w w' := by
  go_enter Try.func13, Try.ntmps13
  go_wp2_with (first | (go_at_call 38; refine (sNewer _ _ _).mono ?_; rintro e w' ⟨rfl, rfl⟩) | (go_at_call 39; refine (iNewer _ _ _).mono ?_; rintro e w' ⟨rfl, rfl⟩))
  go_ret
  exact ⟨rfl, Below.refl _ _⟩
def sizeV (n : Int) : Int := if inB n 0 200 then 4 + 4 * ceilV n 4 else 0
theorem ceilV_4 {n : Int} (h : inB n 0 200 = true) : 0 ≤ ceilV n 4 ∧ ceilV n 4 ≤ 50 := by
  have hb := inB_true h
  simp [ceilV, inB_mk (x := n) (a := 0) (b := 1000000000000) (by omega) (by omega), inB_mk (x := 4) (a := 1) (b := 1000000000000) (by omega) (by omega)]
  omega
theorem sizeV_bd (n : Int) : 0 ≤ sizeV n ∧ sizeV n ≤ 204 := by
  by_cases h : inB n 0 200 = true
  · have := ceilV_4 h
    simp [sizeV, h]
    omega
  · have h' : inB n 0 200 = false := by simpa using h
    simp [sizeV, h']
theorem sSize (n : Int) (w : World) : Calls Try.prog 29 #[.int .i64 n] w fun e w' => e = .returned (.int .i64 (sizeV n)) ∧ w = w' := by
  by_cases h : inB n 0 200 = true
  · have hb := inB_true h
    have hc := ceilV_4 h
    go_enter Try.func29, Try.ntmps29
    go_wp2_with (first | (go_at_call 44; refine (sIn _ _ _ _).mono ?_; rintro e w' ⟨rfl, rfl⟩) | (go_at_call 49; refine (sCeil _ _ _).mono ?_; rintro e w' ⟨rfl, rfl⟩))
    all_goals go_ret
    all_goals exact ⟨by simp_all [sizeV], rfl⟩
  · have h' : inB n 0 200 = false := by simpa using h
    go_enter Try.func29, Try.ntmps29
    go_wp2_with (first | (go_at_call 44; refine (sIn _ _ _ _).mono ?_; rintro e w' ⟨rfl, rfl⟩) | (go_at_call 49; refine (sCeil _ _ _).mono ?_; rintro e w' ⟨rfl, rfl⟩))
    all_goals go_ret
    all_goals exact ⟨by simp_all [sizeV], rfl⟩
theorem iSize (n : Int) (w : World) : Calls Try.prog 30 #[.int .i64 n] w fun e w' => e = .returned (.int .i64 (sizeV n)) ∧ w = w' := by
  by_cases h : inB n 0 200 = true
  · have hb := inB_true h
    have hc := ceilV_4 h
    go_enter Try.func30, Try.ntmps30
    go_wp2_with (first | (go_at_call 45; refine (iIn _ _ _ _).mono ?_; rintro e w' ⟨rfl, rfl⟩) | (go_at_call 50; refine (iCeil _ _ _).mono ?_; rintro e w' ⟨rfl, rfl⟩))
    all_goals go_ret
    all_goals exact ⟨by simp_all [sizeV], rfl⟩
  · have h' : inB n 0 200 = false := by simpa using h
    go_enter Try.func30, Try.ntmps30
    go_wp2_with (first | (go_at_call 45; refine (iIn _ _ _ _).mono ?_; rintro e w' ⟨rfl, rfl⟩) | (go_at_call 50; refine (iCeil _ _ _).mono ?_; rintro e w' ⟨rfl, rfl⟩))
    all_goals go_ret
    all_goals exact ⟨by simp_all [sizeV], rfl⟩
theorem walk_FnExactSubframeSize (a0 : Int) (w : World) (w0 : (Lit.int .i64 a0).wf = true) :
    Calls Try.prog 9 #[.int .i64 a0] w fun e w' => e = .returned (.bool true) ∧ Below w.heap.size w w' := by
  go_enter Try.func9, Try.ntmps9
  go_wp2_with (first | (go_at_call 29; refine (sSize _ _).mono ?_; rintro e w' ⟨rfl, rfl⟩) | (go_at_call 30; refine (iSize _ _).mono ?_; rintro e w' ⟨rfl, rfl⟩))
  go_ret
  exact ⟨rfl, Below.refl _ _⟩
def nameV (c : Int) : ByteArray :=
  if c = 0 then ⟨#[98, 97, 99, 107, 103, 114, 111, 117, 110, 100]⟩ else if c = 1 then ⟨#[98, 101, 115, 116, 45, 101, 102, 102, 111, 114, 116]⟩
  else if c = 2 then ⟨#[118, 105, 100, 101, 111]⟩ else if c = 3 then ⟨#[118, 111, 105, 99, 101]⟩ else ⟨#[]⟩
theorem sName_in (c : Int) (hc : c = 0 ∨ c = 1 ∨ c = 2 ∨ c = 3) (w : World) : Calls Try.prog 19 #[.int .i64 c] w fun e w' => e = .returned (.string (nameV c)) ∧ Below w.heap.size w w' := by
  have h : inB c 0 3 = true := by simp [inB]; omega
  rcases hc with rfl | rfl | rfl | rfl
  all_goals
    go_enter Try.func19, Try.ntmps19
    go_wp2_with (go_at_call 44; refine (sIn _ _ _ _).mono ?_; rintro e w' ⟨rfl, rfl⟩)
    all_goals go_ret
    all_goals exact ⟨rfl, (Below.refl _ _).alloc (Nat.le_refl _) _⟩
theorem sName (c : Int) (w : World) : Calls Try.prog 19 #[.int .i64 c] w fun e w' => e = .returned (.string (nameV c)) ∧ Below w.heap.size w w' := by
  by_cases h : inB c 0 3 = true
  · have hb := inB_true h
    exact sName_in c (by omega) w
  · have h' : inB c 0 3 = false := by simpa using h
    have hb := inB_false h'
    have e1 : nameV c = ⟨#[]⟩ := by simp only [nameV]; rw [if_neg (by omega), if_neg (by omega), if_neg (by omega), if_neg (by omega)]
    rw [e1]
    clear e1
    go_enter Try.func19, Try.ntmps19
    go_wp2_with (go_at_call 44; refine (sIn _ _ _ _).mono ?_; rintro e w' ⟨rfl, rfl⟩)
    all_goals go_ret
    all_goals exact ⟨rfl, Below.refl _ _⟩
theorem iName (c : Int) (w : World) : Calls Try.prog 20 #[.int .i64 c] w fun e w' => e = .returned (.string (nameV c)) ∧ w = w' := by
  by_cases h0 : c = 0 ∨ c = 1 ∨ c = 2 ∨ c = 3
  · rcases h0 with rfl | rfl | rfl | rfl
    all_goals
      go_enter Try.func20, Try.ntmps20
      go_wp2
      all_goals go_ret
      all_goals exact ⟨rfl, rfl⟩
  · have e1 : nameV c = ⟨#[]⟩ := by simp only [nameV]; rw [if_neg (by omega), if_neg (by omega), if_neg (by omega), if_neg (by omega)]
    have k0 : (c == 0) = false := by simp; omega
    have k1 : (c == 1) = false := by simp; omega
    have k2 : (c == 2) = false := by simp; omega
    have k3 : (c == 3) = false := by simp; omega
    rw [e1]
    clear e1 h0
    go_enter Try.func20, Try.ntmps20
    go_wp2
    all_goals go_ret
    all_goals exact ⟨rfl, rfl⟩
theorem walk_FnExactCategoryName (a0 : Int) (w : World) (w0 : (Lit.int .i64 a0).wf = true) :
    Calls Try.prog 5 #[.int .i64 a0] w fun e w' => e = .returned (.bool true) ∧ Below w.heap.size w w' := by
  go_enter Try.func5, Try.ntmps5
  go_wp2_with (first | (go_at_call 19; refine (sName _ _).mono ?_; rintro e w1 ⟨rfl, hb⟩) | (go_at_call 20; refine (iName _ _).mono ?_; rintro e w2 ⟨rfl, rfl⟩))
  go_ret
  exact ⟨rfl, hb⟩
def prioV (p : Int) : Int :=
  if p = 1 ∨ p = 2 then 0 else if p = 0 ∨ p = 3 then 1 else if p = 4 ∨ p = 5 then 2 else if p = 6 ∨ p = 7 then 3 else -1
theorem sPrio_in (c : Int) (hc : c = 0 ∨ c = 1 ∨ c = 2 ∨ c = 3 ∨ c = 4 ∨ c = 5 ∨ c = 6 ∨ c = 7) (w : World) : Calls Try.prog 21 #[.int .i64 c] w fun e w' => e = .returned (.int .i64 (prioV c)) ∧ Below w.heap.size w w' := by
  have h : inB c 0 7 = true := by simp [inB]; omega
  rcases hc with rfl | rfl | rfl | rfl | rfl | rfl | rfl | rfl
  all_goals
    go_enter Try.func21, Try.ntmps21
    go_wp2_with (go_at_call 44; refine (sIn _ _ _ _).mono ?_; rintro e w' ⟨rfl, rfl⟩)
    all_goals go_ret
    all_goals exact ⟨rfl, (Below.refl _ _).alloc (Nat.le_refl _) _⟩
theorem prioV_out {c : Int} (h : c < 0 ∨ 7 < c) : prioV c = -1 := by simp only [prioV]; rw [if_neg (by omega), if_neg (by omega), if_neg (by omega), if_neg (by omega)]
theorem sPrio (c : Int) (w : World) : Calls Try.prog 21 #[.int .i64 c] w fun e w' => e = .returned (.int .i64 (prioV c)) ∧ Below w.heap.size w w' := by
  by_cases h : inB c 0 7 = true
  · have hb := inB_true h
    exact sPrio_in c (by omega) w
  · have h' : inB c 0 7 = false := by simpa using h
    rw [prioV_out (inB_false h')]
    go_enter Try.func21, Try.ntmps21
    go_wp2_with (go_at_call 44; refine (sIn _ _ _ _).mono ?_; rintro e w' ⟨rfl, rfl⟩)
    all_goals go_ret
    all_goals exact ⟨rfl, Below.refl _ _⟩
theorem iPrio (c : Int) (w : World) : Calls Try.prog 22 #[.int .i64 c] w fun e w' => e = .returned (.int .i64 (prioV c)) ∧ w = w' := by
  by_cases h0 : 0 ≤ c ∧ c ≤ 7
  · have h1 : c = 0 ∨ c = 1 ∨ c = 2 ∨ c = 3 ∨ c = 4 ∨ c = 5 ∨ c = 6 ∨ c = 7 := by omega
    clear h0
    rcases h1 with rfl | rfl | rfl | rfl | rfl | rfl | rfl | rfl
    all_goals
      go_enter Try.func22, Try.ntmps22
      go_wp2
      all_goals go_ret
      all_goals exact ⟨rfl, rfl⟩
  · rw [prioV_out (by omega)]
    have k0 : (c == 0) = false := by simp; omega
    have k1 : (c == 1) = false := by simp; omega
    have k2 : (c == 2) = false := by simp; omega
    have k3 : (c == 3) = false := by simp; omega
    have k4 : (c == 4) = false := by simp; omega
    have k5 : (c == 5) = false := by simp; omega
    have k6 : (c == 6) = false := by simp; omega
    have k7 : (c == 7) = false := by simp; omega
    clear h0
    go_enter Try.func22, Try.ntmps22
    go_wp2
    all_goals go_ret
    all_goals exact ⟨rfl, rfl⟩
theorem walk_FnExactCategoryOfPriority (a0 : Int) (w : World) (w0 : (Lit.int .i64 a0).wf = true) :
    Calls Try.prog 6 #[.int .i64 a0] w fun e w' => e = .returned (.bool true) ∧ Below w.heap.size w w' := by
  go_enter Try.func6, Try.ntmps6
  go_wp2_with (first | (go_at_call 21; refine (sPrio _ _).mono ?_; rintro e w1 ⟨rfl, hb⟩) | (go_at_call 22; refine (iPrio _ _).mono ?_; rintro e w2 ⟨rfl, rfl⟩))
  go_ret
  exact ⟨rfl, hb⟩
end Go.Proofs.Ytaideophjlnoeaa
