/- Contracts and walks of the laws over slices of numbers: winners, sizes. -/
import Derived.Test.YtkmklafjcjkpdaaSl
import Derived.Test.YtkmklafjcjkpdaaG1
namespace Go.Proofs.Ytkmklafjcjkpdaa
open Go.RowKit
set_option linter.unusedVariables false
set_option linter.unusedSimpArgs false
def winStep (b c : Int) : Int := if inB c 0 3 then max b c else b
def winL (l : List Int) : Int := l.foldl winStep (-1)
theorem winL_snoc (l : List Int) (v : Int) : winL (l ++ [v]) = winStep (winL l) v := by simp [winL]
theorem iWin (A : Option Addr) (n c : Nat) (zs : List Int) (w : World) (hn : zs.length = n) (hC : Cel w A (zs.map (Value.int .i64))) (hl : n ≤ 1048576) : Calls Try.prog 37 #[.slice A n c] w fun e w' => e = .returned (.int .i64 (winL zs)) ∧ w = w' := by
  subst hn
  go_enter Try.func37, Try.ntmps37
  go_wp2
  go_loop [3, 8] (fun d i => ∃ k : Nat, k ≤ zs.length ∧ i = .int .i64 k ∧ d = .int .i64 (winL (zs.take k))) (fun _ i => zs.length - (intOf i).toNat)
  case atStart => exact ⟨0, Nat.zero_le _, rfl, rfl⟩
  case round =>
    obtain ⟨k, hk, rfl, rfl⟩ := hrel
    by_cases hlt : k < zs.length
    · obtain ⟨b, off, rfl, hb, hc⟩ := hC.map_at (List.ne_nil_of_length_pos (by omega))
      have hck := hc k hlt
      have H := Lib.hid (show winL (zs.take (k + 1)) = winStep (winL (zs.take k)) zs[k] by rw [take_snoc_get zs k hlt, winL_snoc])
      clear hc hC
      generalize winL (zs.take k) = d at *
      by_cases h : inB zs[k] 0 3 = true
      · have hs := Lib.hid (show winStep d zs[k] = max d zs[k] by simp [winStep, h])
        go_wp2_with (first | (go_at_call 97; refine (iCat _ _).mono ?_; rintro e w' ⟨rfl, rfl⟩) | (go_at_call 107; refine (iMax _ _ _).mono ?_; rintro e w' ⟨rfl, rfl⟩))
        go_round
        case rel => exact ⟨k + 1, by omega, by go_num, by rw [H.out, hs.out]⟩
        case measure => simp [intOf]; omega
      · have h' : inB zs[k] 0 3 = false := by simpa using h
        have hs := Lib.hid (show winStep d zs[k] = d by simp [winStep, h'])
        go_wp2_with (first | (go_at_call 97; refine (iCat _ _).mono ?_; rintro e w' ⟨rfl, rfl⟩) | (go_at_call 107; refine (iMax _ _ _).mono ?_; rintro e w' ⟨rfl, rfl⟩))
        go_round
        case rel => exact ⟨k + 1, by omega, by go_num, by rw [H.out, hs.out]⟩
        case measure => simp [intOf]; omega
    · rw [show zs.take k = zs from List.take_of_length_le (by omega)]
      go_wp2
      go_ret
      exact ⟨rfl, rfl⟩
def aggL (l : List Int) : Int := l.foldl (fun a n => a + sizeV n) 0
theorem aggL_snoc (l : List Int) (v : Int) : aggL (l ++ [v]) = aggL l + sizeV v := by simp [aggL]
theorem aggL_bd (l : List Int) : 0 ≤ aggL l ∧ aggL l ≤ 204 * l.length := by
  have h : ∀ l' : List Int, 0 ≤ aggL l'.reverse ∧ aggL l'.reverse ≤ 204 * l'.length := by
    intro l'
    induction l' with
    | nil => simp [aggL]
    | cons v l' ih =>
      have := sizeV_bd v
      rw [List.reverse_cons, aggL_snoc]
      simp only [List.length_cons]
      omega
  have := h l.reverse
  simpa using this
def fitB (zs : List Int) (nx lim : Int) : Bool := inB nx 0 200 && decide ((zs.length : Int) < 8) && decide (aggL zs + sizeV nx ≤ lim)
theorem fitB_false {zs : List Int} {nx lim : Int} (h : inB nx 0 200 = false ∨ decide ((zs.length : Int) < 8) = false) : fitB zs nx lim = false := by
  unfold fitB
  rcases h with h | h <;> rw [h] <;> simp
theorem cells_int' : Try.prog.cellsOf 3 = 1 := by kernel_rfl
/-- The common end of a law over one slice of numbers: the argument of the program's call still reads as it did. -/
theorem view_ints {w : World} {A : Option Addr} {n c : Nat} (h : Rd Try.prog w 52 [.slice A n c]) : ∃ zs : List Int, zs.length = n ∧ Cel w A (zs.map (Value.int .i64)) ∧ n ≤ maxLen := by
  obtain ⟨zs, h1, h2, -, -, h3, h4⟩ := view_nums Try.underlying52 Try.underlying3 cells_int' h
  exact ⟨zs, h1, h2, by omega⟩
end Go.Proofs.Ytkmklafjcjkpdaa
