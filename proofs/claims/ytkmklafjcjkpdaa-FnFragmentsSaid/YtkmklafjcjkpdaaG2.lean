/- Contracts and walks of the laws over reservations and access parameters. -/
import Derived.Test.YtkmklafjcjkpdaaG1
namespace Go.Proofs.Ytkmklafjcjkpdaa
open Go.RowKit
set_option linter.unusedVariables false
set_option linter.unusedSimpArgs false
theorem int_field {w : World} {cs : List Value} {fs : Array Field} {t : TypeId} (ht : Try.prog.underlying t = some (.struct fs)) (h : Rd Try.prog w t cs) (i : Nat) (f : Field) (hf : fs[i]? = some f)
    (hk : Try.prog.underlying f.type = some (.int .i64)) (hc : Try.prog.cellsOf f.type = 1) : ∃ n, (cs.drop f.offset).take 1 = [.int .i64 n] ∧ (Lit.int .i64 n).wf = true := by
  have h1 := (Rd.struct ht h).2 i f hf
  rw [hc] at h1
  exact Rd.int hk h1
theorem bool_field {w : World} {cs : List Value} {fs : Array Field} {t : TypeId} (ht : Try.prog.underlying t = some (.struct fs)) (h : Rd Try.prog w t cs) (i : Nat) (f : Field) (hf : fs[i]? = some f)
    (hk : Try.prog.underlying f.type = some .bool) (hc : Try.prog.cellsOf f.type = 1) : ∃ b, (cs.drop f.offset).take 1 = [.bool b] := by
  have h1 := (Rd.struct ht h).2 i f hf
  rw [hc] at h1
  exact Rd.bool hk h1
theorem cells_int : Try.prog.cellsOf 3 = 1 := by kernel_rfl
def resB (u o b : Int) : Bool := inB u 0 1000000000000 && inB o 0 15 && inB b 0 15
theorem sResOk (u o b : Int) (w : World) : Calls Try.prog 64 #[.agg #[.int .i64 u, .int .i64 o, .int .i64 b]] w fun e w' => e = .returned (.bool (resB u o b)) ∧ Below w.heap.size w w' := by
  by_cases h1 : inB u 0 1000000000000 = true
  · by_cases h2 : inB o 0 15 = true
    · go_enter Try.func64, Try.ntmps64
      go_wp2_with (first | (go_at_call 92; refine (sIn _ _ _ _).mono ?_; rintro e w' ⟨rfl, rfl⟩) )
      all_goals go_ret
      all_goals exact ⟨by simp_all [resB], by repeat (first | (with_reducible exact Below.refl _ _) | (with_reducible assumption) | (with_reducible refine Below.alloc ?_ (by simp <;> omega) _) | (with_reducible refine Below.setCell ?_ (by simp <;> omega) _) | (with_reducible refine Below.drew ?_))⟩
    · have h2' : inB o 0 15 = false := by simpa using h2
      go_enter Try.func64, Try.ntmps64
      go_wp2_with (first | (go_at_call 92; refine (sIn _ _ _ _).mono ?_; rintro e w' ⟨rfl, rfl⟩) )
      all_goals go_ret
      all_goals exact ⟨by simp_all [resB], by repeat (first | (with_reducible exact Below.refl _ _) | (with_reducible assumption) | (with_reducible refine Below.alloc ?_ (by simp <;> omega) _) | (with_reducible refine Below.setCell ?_ (by simp <;> omega) _) | (with_reducible refine Below.drew ?_))⟩
  · have h1' : inB u 0 1000000000000 = false := by simpa using h1
    go_enter Try.func64, Try.ntmps64
    go_wp2_with (first | (go_at_call 92; refine (sIn _ _ _ _).mono ?_; rintro e w' ⟨rfl, rfl⟩) )
    all_goals go_ret
    all_goals exact ⟨by simp_all [resB], by repeat (first | (with_reducible exact Below.refl _ _) | (with_reducible assumption) | (with_reducible refine Below.alloc ?_ (by simp <;> omega) _) | (with_reducible refine Below.setCell ?_ (by simp <;> omega) _) | (with_reducible refine Below.drew ?_))⟩
theorem iResOk (u o b : Int) (w : World) : Calls Try.prog 62 #[.agg #[.int .i64 u, .int .i64 o, .int .i64 b]] w fun e w' => e = .returned (.bool (resB u o b)) ∧ Below w.heap.size w w' := by
  by_cases h1 : inB u 0 1000000000000 = true
  · by_cases h2 : inB o 0 15 = true
    · go_enter Try.func62, Try.ntmps62
      go_wp2_with (first | (go_at_call 94; refine (iIn _ _ _ _).mono ?_; rintro e w' ⟨rfl, rfl⟩)  | (go_at_call 116; refine (iStation _ _).mono ?_; rintro e w' ⟨rfl, rfl⟩))
      all_goals go_ret
      all_goals exact ⟨by simp_all [resB], by repeat (first | (with_reducible exact Below.refl _ _) | (with_reducible assumption) | (with_reducible refine Below.alloc ?_ (by simp <;> omega) _) | (with_reducible refine Below.setCell ?_ (by simp <;> omega) _) | (with_reducible refine Below.drew ?_))⟩
    · have h2' : inB o 0 15 = false := by simpa using h2
      go_enter Try.func62, Try.ntmps62
      go_wp2_with (first | (go_at_call 94; refine (iIn _ _ _ _).mono ?_; rintro e w' ⟨rfl, rfl⟩)  | (go_at_call 116; refine (iStation _ _).mono ?_; rintro e w' ⟨rfl, rfl⟩))
      all_goals go_ret
      all_goals exact ⟨by simp_all [resB], by repeat (first | (with_reducible exact Below.refl _ _) | (with_reducible assumption) | (with_reducible refine Below.alloc ?_ (by simp <;> omega) _) | (with_reducible refine Below.setCell ?_ (by simp <;> omega) _) | (with_reducible refine Below.drew ?_))⟩
  · have h1' : inB u 0 1000000000000 = false := by simpa using h1
    go_enter Try.func62, Try.ntmps62
    go_wp2_with (first | (go_at_call 94; refine (iIn _ _ _ _).mono ?_; rintro e w' ⟨rfl, rfl⟩)  | (go_at_call 116; refine (iStation _ _).mono ?_; rintro e w' ⟨rfl, rfl⟩))
    all_goals go_ret
    all_goals exact ⟨by simp_all [resB], by repeat (first | (with_reducible exact Below.refl _ _) | (with_reducible assumption) | (with_reducible refine Below.alloc ?_ (by simp <;> omega) _) | (with_reducible refine Below.setCell ?_ (by simp <;> omega) _) | (with_reducible refine Below.drew ?_))⟩
def cmb (u1 u2 x y : Int) : Int := if u1 < u2 then y else x
theorem cmb_lt {u1 u2 x y : Int} (h : u1 < u2) : cmb u1 u2 x y = y := by simp [cmb, h]
theorem cmb_ge {u1 u2 x y : Int} (h : ¬ u1 < u2) : cmb u1 u2 x y = x := by simp [cmb, h]
theorem iComb (u1 o1 b1 u2 o2 b2 : Int) (w : World) : Calls Try.prog 69 #[.agg #[.int .i64 u1, .int .i64 o1, .int .i64 b1], .agg #[.int .i64 u2, .int .i64 o2, .int .i64 b2]] w
    fun e w' => e = .returned (.agg #[.int .i64 (cmb u1 u2 u1 u2), .int .i64 (cmb u1 u2 o1 o2), .int .i64 (cmb u1 u2 b1 b2)]) ∧ Below w.heap.size w w' := by
  by_cases h : u1 < u2
  · simp only [cmb_lt h]
    go_enter Try.func69, Try.ntmps69
    go_wp2
    exact bodyPost_ret (v := .agg #[.int .i64 u2, .int .i64 o2, .int .i64 b2]) (by simp [results, Try.results69, go_sem]) rfl ⟨rfl, by repeat (first | (with_reducible exact Below.refl _ _) | (with_reducible assumption) | (with_reducible refine Below.alloc ?_ (by simp <;> omega) _) | (with_reducible refine Below.setCell ?_ (by simp <;> omega) _) | (with_reducible refine Below.drew ?_))⟩
  · simp only [cmb_ge h]
    go_enter Try.func69, Try.ntmps69
    go_wp2
    exact bodyPost_ret (v := .agg #[.int .i64 u1, .int .i64 o1, .int .i64 b1]) (by simp [results, Try.results69, go_sem]) rfl ⟨rfl, by repeat (first | (with_reducible exact Below.refl _ _) | (with_reducible assumption) | (with_reducible refine Below.alloc ?_ (by simp <;> omega) _) | (with_reducible refine Below.setCell ?_ (by simp <;> omega) _) | (with_reducible refine Below.drew ?_))⟩
end Go.Proofs.Ytkmklafjcjkpdaa
