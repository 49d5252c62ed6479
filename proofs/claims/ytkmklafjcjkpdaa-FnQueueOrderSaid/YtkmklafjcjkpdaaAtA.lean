/- The law's own function 'at': a byte of the input, or a substitute. -/
import Derived.Test.YtkmklafjcjkpdaaDrw
namespace Go.Proofs.Ytkmklafjcjkpdaa
open Go.RowKit
set_option linter.unusedVariables false
set_option linter.unusedSimpArgs false
def atV (l : List Int) (i : Nat) : Int := if h : i < l.length then l[i] else ((i : Int) * 31 + l.length * 7).tmod 256
theorem atV_bd {l : List Int} (hb : ∀ x ∈ l, 0 ≤ x ∧ x ≤ 255) (i : Nat) : 0 ≤ atV l i ∧ atV l i ≤ 255 := by
  unfold atV
  split
  · rename_i h
    exact hb _ (List.getElem_mem h)
  · have := mod_lt (x := (i : Int) * 31 + l.length * 7) (n := 256) (by omega) (by omega)
    omega
theorem at_ (w : World) (A : Option Addr) (n c : Nat) (l : List Int) (i : Nat) (z : Int) (hz : z = (i : Int)) (hn : l.length = n) (hr : RB w A c l) (hb : ∀ x ∈ l, 0 ≤ x ∧ x ≤ 255) (hl : n ≤ 1048576) (hi : i ≤ 1000) :
    Calls Try.prog 24 #[.slice A n c, .int .i64 z] w fun e w' => e = .returned (.int .i64 (atV l i)) ∧ w = w' := by
  subst hz
  by_cases hlt : i < l.length
  · obtain ⟨b, off, rfl, hb1, hb2⟩ := hr.at_ hlt
    have e1 : atV l i = l[i] := by simp [atV, hlt]
    have h255 := hb _ (List.getElem_mem hlt)
    rw [e1]
    generalize l[i] = v at *
    have hlt' : (i : Int) < n := by omega
    have hwr : IntKind.i64.wrap v = v := IntWalk.i64_in _ (by omega)
    have hin : i < n := by omega
    clear hr hb e1
    go_enter Try.func24, Try.ntmps24
    go_wp2_with fail
    go_ret
    exact ⟨rfl, rfl⟩
  · have e1 : atV l i = ((i : Int) * 31 + l.length * 7).tmod 256 := by simp [atV, hlt]
    have hlt' : ¬ (i : Int) < n := by omega
    rw [e1, hn]
    have w1 : IntKind.i64.wrap ((i : Int) * 31) = (i : Int) * 31 := IntWalk.i64_in _ (by omega)
    have w2 : IntKind.i64.wrap ((n : Int) * 7) = (n : Int) * 7 := IntWalk.i64_in _ (by omega)
    have w3 : IntKind.i64.wrap ((i : Int) * 31 + (n : Int) * 7) = (i : Int) * 31 + (n : Int) * 7 := IntWalk.i64_in _ (by omega)
    clear hr hb e1
    go_enter Try.func24, Try.ntmps24
    go_wp2_with fail
    go_ret
    exact ⟨rfl, rfl⟩
end Go.Proofs.Ytkmklafjcjkpdaa
