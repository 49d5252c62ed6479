/- Walks of the laws over two reservations. -/
import Derived.Test.YtkmklafjcjkpdaaG2
namespace Go.Proofs.Ytkmklafjcjkpdaa
open Go.RowKit
set_option linter.unusedVariables false
set_option linter.unusedSimpArgs false
theorem resvI (u o b n : Int) (w : World) : Calls Try.prog 66 #[.agg #[.int .i64 u, .int .i64 o, .int .i64 b], .int .i64 n] w fun e w' => e = .returned (.bool (decide (n < u))) ∧ Below w.heap.size w w' := by
  go_enter Try.func66, Try.ntmps66
  go_wp2
  go_ret
  exact ⟨rfl, by repeat (first | (with_reducible exact Below.refl _ _) | (with_reducible assumption) | (with_reducible refine Below.alloc ?_ (by simp <;> omega) _) | (with_reducible refine Below.setCell ?_ (by simp <;> omega) _) | (with_reducible refine Below.drew ?_))⟩
def relV (c : Bool) (x : Int) : Int := if c then 0 else x
theorem relV_t (x : Int) : relV true x = 0 := rfl
theorem relV_f (x : Int) : relV false x = x := rfl
theorem iRel (u o b n : Int) (h : Bool) (w : World) : Calls Try.prog 67 #[.agg #[.int .i64 u, .int .i64 o, .int .i64 b], .int .i64 n, .bool h] w
    fun e w' => e = .returned (.agg #[.int .i64 (relV (decide (n < u) && !h) u), .int .i64 (relV (decide (n < u) && !h) o), .int .i64 (relV (decide (n < u) && !h) b)]) ∧ Below w.heap.size w w' := by
  by_cases hn : n < u
  · cases h with
    | false =>
      simp only [hn, decide_true, Bool.not_false, Bool.and_self, relV_t]
      go_enter Try.func67, Try.ntmps67
      go_wp2_with fail
      refine (resvI _ _ _ _ _).mono ?_
      rintro e w1 ⟨rfl, hb⟩
      obtain ⟨hc, hf⟩ := bcell hb
      have hz := hb.size
      simp only [World.size_alloc] at hz
      have hb0 : Below w.heap.size w w1 := Ext.trans (Ext.trans (Ext.alloc_ _ _) (Ext.alloc_ _ _)) hb
      clear hb
      go_wp2_with fail
      exact bodyPost_ret (v := .agg #[.int .i64 0, .int .i64 0, .int .i64 0]) (by simp [results, Try.results67, go_sem, hc, hf]) rfl ⟨rfl, by repeat (first | (with_reducible exact Below.refl _ _) | (with_reducible assumption) | (with_reducible refine Below.alloc ?_ (by simp <;> omega) _) | (with_reducible refine Below.setCell ?_ (by simp <;> omega) _) | (with_reducible refine Below.drew ?_))⟩
    | true =>
      simp only [Bool.not_true, Bool.and_false, relV_f]
      go_enter Try.func67, Try.ntmps67
      go_wp2_with fail
      refine (resvI _ _ _ _ _).mono ?_
      rintro e w1 ⟨rfl, hb⟩
      obtain ⟨hc, hf⟩ := bcell hb
      have hz := hb.size
      simp only [World.size_alloc] at hz
      have hb0 : Below w.heap.size w w1 := Ext.trans (Ext.trans (Ext.alloc_ _ _) (Ext.alloc_ _ _)) hb
      clear hb
      go_wp2_with fail
      exact bodyPost_ret (v := .agg #[.int .i64 u, .int .i64 o, .int .i64 b]) (by simp [results, Try.results67, go_sem, hc, hf]) rfl ⟨rfl, by repeat (first | (with_reducible exact Below.refl _ _) | (with_reducible assumption) | (with_reducible refine Below.alloc ?_ (by simp <;> omega) _) | (with_reducible refine Below.setCell ?_ (by simp <;> omega) _) | (with_reducible refine Below.drew ?_))⟩
  · simp only [hn, decide_false, Bool.false_and, relV_f]
    go_enter Try.func67, Try.ntmps67
    go_wp2_with fail
    refine (resvI _ _ _ _ _).mono ?_
    rintro e w1 ⟨rfl, hb⟩
    obtain ⟨hc, hf⟩ := bcell hb
    have hz := hb.size
    simp only [World.size_alloc] at hz
    have hb0 : Below w.heap.size w w1 := Ext.trans (Ext.trans (Ext.alloc_ _ _) (Ext.alloc_ _ _)) hb
    clear hb
    go_wp2_with fail
    exact bodyPost_ret (v := .agg #[.int .i64 u, .int .i64 o, .int .i64 b]) (by simp [results, Try.results67, go_sem, hc, hf]) rfl ⟨rfl, by repeat (first | (with_reducible exact Below.refl _ _) | (with_reducible assumption) | (with_reducible refine Below.alloc ?_ (by simp <;> omega) _) | (with_reducible refine Below.setCell ?_ (by simp <;> omega) _) | (with_reducible refine Below.drew ?_))⟩
end Go.Proofs.Ytkmklafjcjkpdaa
