/- Contracts and walks of the laws over slices of numbers: winners, sizes. -/
import Derived.Test.YtchhjidldppciaaSl
import Derived.Test.YtchhjidldppciaaG1
namespace Go.Proofs.Ytchhjidldppciaa
open Go.RowKit
set_option linter.unusedVariables false
set_option linter.unusedSimpArgs false
def winStep (b c : Int) : Int := if inB c 0 3 then max b c else b
def winL (l : List Int) : Int := l.foldl winStep (-1)
theorem winL_snoc (l : List Int) (v : Int) : winL (l ++ [v]) = winStep (winL l) v := by simp [winL]
theorem sWin (A : Option Addr) (n c : Nat) (zs : List Int) (w : World) (hn : zs.length = n) (hC : Cel w A (zs.map (Value.int .i64))) (hl : n ≤ 1048576) : Calls Try.prog 15 #[.slice A n c] w fun e w' => e = .returned (.int .i64 (winL zs)) ∧ w = w' := by
  subst hn
  go_enter Try.func15, Try.ntmps15
  go_wp2
  go_loop [3, 4] (fun d i => ∃ k : Nat, k ≤ zs.length ∧ i = .int .i64 k ∧ d = .int .i64 (winL (zs.take k))) (fun _ i => zs.length - (intOf i).toNat)
  case atStart => exact ⟨0, Nat.zero_le _, rfl, rfl⟩
  case round =>
    obtain ⟨k, hk, rfl, rfl⟩ := hrel
    by_cases hlt : k < zs.length
    · obtain ⟨b, off, rfl, hb, hc⟩ := hC.map_at (List.ne_nil_of_length_pos (by omega))
      have hck := hc k hlt
      have H := Lib.hid (show winL (zs.take (k + 1)) = winStep (winL (zs.take k)) zs[k] by rw [take_snoc_get zs k hlt, winL_snoc])
      clear hc hC
      generalize winL (zs.take k) = d at *
      by_cases h : inB zs[k] 0 3 = true
      · have hs := Lib.hid (show winStep d zs[k] = max d zs[k] by simp [winStep, h])
        go_wp2_with (first | (go_at_call 59; refine (sIn _ _ _ _).mono ?_; rintro e w' ⟨rfl, rfl⟩) | (go_at_call 60; refine (sMax _ _ _).mono ?_; rintro e w' ⟨rfl, rfl⟩))
        go_round
        case rel => exact ⟨k + 1, by omega, by go_num, by rw [H.out, hs.out]⟩
        case measure => simp [intOf]; omega
      · have h' : inB zs[k] 0 3 = false := by simpa using h
        have hs := Lib.hid (show winStep d zs[k] = d by simp [winStep, h'])
        go_wp2_with (first | (go_at_call 59; refine (sIn _ _ _ _).mono ?_; rintro e w' ⟨rfl, rfl⟩) | (go_at_call 60; refine (sMax _ _ _).mono ?_; rintro e w' ⟨rfl, rfl⟩))
        go_round
        case rel => exact ⟨k + 1, by omega, by go_num, by rw [H.out, hs.out]⟩
        case measure => simp [intOf]; omega
    · rw [show zs.take k = zs from List.take_of_length_le (by omega)]
      go_wp2
      go_ret
      exact ⟨rfl, rfl⟩
theorem iWin (A : Option Addr) (n c : Nat) (zs : List Int) (w : World) (hn : zs.length = n) (hC : Cel w A (zs.map (Value.int .i64))) (hl : n ≤ 1048576) : Calls Try.prog 17 #[.slice A n c] w fun e w' => e = .returned (.int .i64 (winL zs)) ∧ w = w' := by
  subst hn
  go_enter Try.func17, Try.ntmps17
  go_wp2
  go_loop [3, 8] (fun d i => ∃ k : Nat, k ≤ zs.length ∧ i = .int .i64 k ∧ d = .int .i64 (winL (zs.take k))) (fun _ i => zs.length - (intOf i).toNat)
  case atStart => exact ⟨0, Nat.zero_le _, rfl, rfl⟩
  case round =>
    obtain ⟨k, hk, rfl, rfl⟩ := hrel
    by_cases hlt : k < zs.length
    · obtain ⟨b, off, rfl, hb, hc⟩ := hC.map_at (List.ne_nil_of_length_pos (by omega))
      have hck := hc k hlt
      have H := Lib.hid (show winL (zs.take (k + 1)) = winStep (winL (zs.take k)) zs[k] by rw [take_snoc_get zs k hlt, winL_snoc])
      clear hc hC
      generalize winL (zs.take k) = d at *
      by_cases h : inB zs[k] 0 3 = true
      · have hs := Lib.hid (show winStep d zs[k] = max d zs[k] by simp [winStep, h])
        go_wp2_with (first | (go_at_call 61; refine (iCat _ _).mono ?_; rintro e w' ⟨rfl, rfl⟩) | (go_at_call 62; refine (iMax _ _ _).mono ?_; rintro e w' ⟨rfl, rfl⟩))
        go_round
        case rel => exact ⟨k + 1, by omega, by go_num, by rw [H.out, hs.out]⟩
        case measure => simp [intOf]; omega
      · have h' : inB zs[k] 0 3 = false := by simpa using h
        have hs := Lib.hid (show winStep d zs[k] = d by simp [winStep, h'])
        go_wp2_with (first | (go_at_call 61; refine (iCat _ _).mono ?_; rintro e w' ⟨rfl, rfl⟩) | (go_at_call 62; refine (iMax _ _ _).mono ?_; rintro e w' ⟨rfl, rfl⟩))
        go_round
        case rel => exact ⟨k + 1, by omega, by go_num, by rw [H.out, hs.out]⟩
        case measure => simp [intOf]; omega
    · rw [show zs.take k = zs from List.take_of_length_le (by omega)]
      go_wp2
      go_ret
      exact ⟨rfl, rfl⟩
def aggL (l : List Int) : Int := l.foldl (fun a n => a + sizeV n) 0
theorem aggL_snoc (l : List Int) (v : Int) : aggL (l ++ [v]) = aggL l + sizeV v := by simp [aggL]
theorem aggL_bd (l : List Int) : 0 ≤ aggL l ∧ aggL l ≤ 204 * l.length := by
  have h : ∀ l' : List Int, 0 ≤ aggL l'.reverse ∧ aggL l'.reverse ≤ 204 * l'.length := by
    intro l'
    induction l' with
    | nil => simp [aggL]
    | cons v l' ih =>
      have := sizeV_bd v
      rw [List.reverse_cons, aggL_snoc]
      simp only [List.length_cons]
      omega
  have := h l.reverse
  simpa using this
theorem sAgg (A : Option Addr) (n c : Nat) (zs : List Int) (w : World) (hn : zs.length = n) (hC : Cel w A (zs.map (Value.int .i64))) (hl : n ≤ 1048576) : Calls Try.prog 19 #[.slice A n c] w fun e w' => e = .returned (.int .i64 (aggL zs)) ∧ w = w' := by
  subst hn
  go_enter Try.func19, Try.ntmps19
  go_wp2
  go_loop [3, 4] (fun d i => ∃ k : Nat, k ≤ zs.length ∧ i = .int .i64 k ∧ d = .int .i64 (aggL (zs.take k))) (fun _ i => zs.length - (intOf i).toNat)
  case atStart => exact ⟨0, Nat.zero_le _, rfl, rfl⟩
  case round =>
    obtain ⟨k, hk, rfl, rfl⟩ := hrel
    by_cases hlt : k < zs.length
    · obtain ⟨b, off, rfl, hb, hc⟩ := hC.map_at (List.ne_nil_of_length_pos (by omega))
      have hck := hc k hlt
      have hbd := aggL_bd (zs.take k)
      have hsz := sizeV_bd zs[k]
      have hb1 : aggL (zs.take k) ≤ 1000000000 := by simp at hbd; omega
      have hb0 := hbd.1
      have H := Lib.hid (show aggL (zs.take (k + 1)) = aggL (zs.take k) + sizeV zs[k] by rw [take_snoc_get zs k hlt, aggL_snoc])
      clear hc hC hbd
      generalize aggL (zs.take k) = d at *
      go_wp2_with (go_at_call 63; refine (sSize _ _).mono ?_; rintro e w' ⟨rfl, rfl⟩)
      go_round
      case rel => exact ⟨k + 1, by omega, by go_num, by rw [H.out]⟩
      case measure => simp [intOf]; omega
    · rw [show zs.take k = zs from List.take_of_length_le (by omega)]
      go_wp2
      go_ret
      exact ⟨rfl, rfl⟩
theorem iAgg (A : Option Addr) (n c : Nat) (zs : List Int) (w : World) (hn : zs.length = n) (hC : Cel w A (zs.map (Value.int .i64))) (hl : n ≤ 1048576) : Calls Try.prog 20 #[.slice A n c] w fun e w' => e = .returned (.int .i64 (aggL zs)) ∧ w = w' := by
  subst hn
  go_enter Try.func20, Try.ntmps20
  go_wp2
  go_loop [3, 8] (fun d i => ∃ k : Nat, k ≤ zs.length ∧ i = .int .i64 k ∧ d = .int .i64 (aggL (zs.take k))) (fun _ i => zs.length - (intOf i).toNat)
  case atStart => exact ⟨0, Nat.zero_le _, rfl, rfl⟩
  case round =>
    obtain ⟨k, hk, rfl, rfl⟩ := hrel
    by_cases hlt : k < zs.length
    · obtain ⟨b, off, rfl, hb, hc⟩ := hC.map_at (List.ne_nil_of_length_pos (by omega))
      have hck := hc k hlt
      have hbd := aggL_bd (zs.take k)
      have hsz := sizeV_bd zs[k]
      have hb1 : aggL (zs.take k) ≤ 1000000000 := by simp at hbd; omega
      have hb0 := hbd.1
      have H := Lib.hid (show aggL (zs.take (k + 1)) = aggL (zs.take k) + sizeV zs[k] by rw [take_snoc_get zs k hlt, aggL_snoc])
      clear hc hC hbd
      generalize aggL (zs.take k) = d at *
      go_wp2_with (go_at_call 64; refine (iSize _ _).mono ?_; rintro e w' ⟨rfl, rfl⟩)
      go_round
      case rel => exact ⟨k + 1, by omega, by go_num, by rw [H.out]⟩
      case measure => simp [intOf]; omega
    · rw [show zs.take k = zs from List.take_of_length_le (by omega)]
      go_wp2
      go_ret
      exact ⟨rfl, rfl⟩
def fitB (zs : List Int) (nx lim : Int) : Bool := inB nx 0 200 && decide ((zs.length : Int) < 8) && decide (aggL zs + sizeV nx ≤ lim)
theorem fitB_false {zs : List Int} {nx lim : Int} (h : inB nx 0 200 = false ∨ decide ((zs.length : Int) < 8) = false) : fitB zs nx lim = false := by
  unfold fitB
  rcases h with h | h <;> rw [h] <;> simp
theorem sFit (A : Option Addr) (n c : Nat) (zs : List Int) (nx lim : Int) (w : World) (hn : zs.length = n) (hC : Cel w A (zs.map (Value.int .i64))) (hl : n ≤ 1048576) :
    Calls Try.prog 21 #[.slice A n c, .int .i64 nx, .int .i64 lim] w fun e w' => e = .returned (.bool (fitB zs nx lim)) ∧ w = w' := by
  subst hn
  by_cases h1 : inB nx 0 200 = true
  · by_cases h2 : (zs.length : Int) < 8
    · have hbd := aggL_bd zs
      have hsz := sizeV_bd nx
      have HF := Lib.hid (show fitB zs nx lim = decide (aggL zs + sizeV nx ≤ lim) by simp only [fitB, h1, decide_eq_true h2, Bool.true_and])
      go_enter Try.func21, Try.ntmps21
      go_wp2_with (first | (go_at_call 59; refine (sIn _ _ _ _).mono ?_; rintro e w' ⟨rfl, rfl⟩) | (go_at_call 19; refine (sAgg _ _ _ _ _ rfl hC hl).mono ?_; rintro e w' ⟨rfl, rfl⟩) | (go_at_call 63; refine (sSize _ _).mono ?_; rintro e w' ⟨rfl, rfl⟩))
      all_goals go_ret
      all_goals exact ⟨by rw [HF.out]; first | rfl | simp [*], rfl⟩
    · have h2' : decide ((zs.length : Int) < 8) = false := by simpa using h2
      have HF := Lib.hid (show fitB zs nx lim = false from fitB_false (.inr h2'))
      go_enter Try.func21, Try.ntmps21
      go_wp2_with (go_at_call 59; refine (sIn _ _ _ _).mono ?_; rintro e w' ⟨rfl, rfl⟩)
      go_ret
      exact ⟨by rw [HF.out]; rfl, rfl⟩
  · have h1' : inB nx 0 200 = false := by simpa using h1
    have HF := Lib.hid (show fitB zs nx lim = false from fitB_false (.inl h1'))
    go_enter Try.func21, Try.ntmps21
    go_wp2_with (go_at_call 59; refine (sIn _ _ _ _).mono ?_; rintro e w' ⟨rfl, rfl⟩)
    go_ret
    exact ⟨by rw [HF.out]; rfl, rfl⟩
theorem iFit (A : Option Addr) (n c : Nat) (zs : List Int) (nx lim : Int) (w : World) (hn : zs.length = n) (hC : Cel w A (zs.map (Value.int .i64))) (hl : n ≤ 1048576) :
    Calls Try.prog 22 #[.slice A n c, .int .i64 nx, .int .i64 lim] w fun e w' => e = .returned (.bool (fitB zs nx lim)) ∧ w = w' := by
  subst hn
  by_cases h1 : inB nx 0 200 = true
  · by_cases h2 : (zs.length : Int) < 8
    · have hbd := aggL_bd zs
      have hsz := sizeV_bd nx
      have HF := Lib.hid (show fitB zs nx lim = decide (aggL zs + sizeV nx ≤ lim) by simp only [fitB, h1, decide_eq_true h2, Bool.true_and])
      go_enter Try.func22, Try.ntmps22
      go_wp2_with (first | (go_at_call 65; refine (iIn _ _ _ _).mono ?_; rintro e w' ⟨rfl, rfl⟩) | (go_at_call 20; refine (iAgg _ _ _ _ _ rfl hC hl).mono ?_; rintro e w' ⟨rfl, rfl⟩) | (go_at_call 64; refine (iSize _ _).mono ?_; rintro e w' ⟨rfl, rfl⟩))
      all_goals go_ret
      all_goals exact ⟨by rw [HF.out]; first | rfl | simp [*], rfl⟩
    · have h2' : decide ((zs.length : Int) < 8) = false := by simpa using h2
      have HF := Lib.hid (show fitB zs nx lim = false from fitB_false (.inr h2'))
      go_enter Try.func22, Try.ntmps22
      go_wp2_with (go_at_call 65; refine (iIn _ _ _ _).mono ?_; rintro e w' ⟨rfl, rfl⟩)
      go_ret
      exact ⟨by rw [HF.out]; rfl, rfl⟩
  · have h1' : inB nx 0 200 = false := by simpa using h1
    have HF := Lib.hid (show fitB zs nx lim = false from fitB_false (.inl h1'))
    go_enter Try.func22, Try.ntmps22
    go_wp2_with (go_at_call 65; refine (iIn _ _ _ _).mono ?_; rintro e w' ⟨rfl, rfl⟩)
    go_ret
    exact ⟨by rw [HF.out]; rfl, rfl⟩
theorem cells_int' : Try.prog.cellsOf 3 = 1 := by kernel_rfl
/-- The common end of a law over one slice of numbers: the argument of the program's call still reads as it did. -/
theorem view_ints {w : World} {A : Option Addr} {n c : Nat} (h : Rd Try.prog w 22 [.slice A n c]) : ∃ zs : List Int, zs.length = n ∧ Cel w A (zs.map (Value.int .i64)) ∧ n ≤ maxLen := by
  obtain ⟨zs, h1, h2, -, -, h3, h4⟩ := view_nums Try.underlying22 Try.underlying3 cells_int' h
  exact ⟨zs, h1, h2, by omega⟩
theorem walk_FnExactInternalWinner (a0 : Option Addr) (n0 c0 : Nat) (w : World) (r0 : Rd Try.prog w 22 [.slice a0 n0 c0]) :
    Calls Try.prog 3 #[.slice a0 n0 c0] w fun e w' => e = .returned (.bool true) ∧ Below w.heap.size w w' := by
  obtain ⟨zs, hn, hC, hm⟩ := view_ints r0
  clear r0
  unfold maxLen at hm
  by_cases hbig : (1048576 : Int) < (n0 : Int)
  · go_enter Try.func3, Try.ntmps3
    go_wp2_with fail
    go_ret
    exact ⟨rfl, Below.refl _ _⟩
  · have hl : n0 ≤ 1048576 := by omega
    have hC' := Lib.hid hC
    have hn' := Lib.hid hn
    clear hC hn
    go_enter Try.func3, Try.ntmps3
    go_wp2_with fail
    refine (toIntS_ _ _ _ zs _ hn'.out hC'.out hl).mono ?_
    rintro e w1 ⟨rfl, rfl⟩
    go_wp2_with fail
    refine (sWin _ _ _ zs _ hn'.out (by simpa using cel_lit w 3 (zs.map (Value.int .i64)).toArray) hl).mono ?_
    rintro e w1 ⟨rfl, rfl⟩
    go_wp2_with fail
    refine (toIntS_ _ _ _ zs _ hn'.out (hC'.out.ext (Ext.alloc_ _ _)) hl).mono ?_
    rintro e w1 ⟨rfl, rfl⟩
    have hx := cel_lit (w.alloc (.cells (zs.map (Value.int .i64)).toArray 3)) 3 (zs.map (Value.int .i64)).toArray
    have hx' := Lib.hid hx
    clear hx
    generalize hW : (w.alloc (.cells (zs.map (Value.int .i64)).toArray 3)).alloc (.cells (zs.map (Value.int .i64)).toArray 3) = W at *
    have hE : Ext w W := by rw [← hW]; exact Ext.trans (Ext.alloc_ _ _) (Ext.alloc_ _ _)
    clear hW
    go_wp2_with fail
    refine (iWin _ _ _ zs _ hn'.out (by simpa using hx'.out) hl).mono ?_
    rintro e w1 ⟨rfl, rfl⟩
    go_wp2_with fail
    refine (toIntS_ _ _ _ zs _ hn'.out (hC'.out.ext hE) hl).mono ?_
    rintro e w1 ⟨rfl, rfl⟩
    go_wp2_with fail
    refine (eqIntS_ _ _ _ _ _ zs _ hn'.out ((by simpa using hx'.out : Cel W _ _).ext (Ext.alloc_ _ _)) (by simpa using cel_lit W 3 (zs.map (Value.int .i64)).toArray) (by omega)).mono ?_
    rintro e w2 ⟨rfl, hb2⟩
    go_wp2_with fail
    go_ret
    exact ⟨rfl, Ext.trans hE (Ext.trans (Ext.alloc_ _ _) hb2)⟩
theorem walk_FnExactAggregateSize (a0 : Option Addr) (n0 c0 : Nat) (w : World) (r0 : Rd Try.prog w 22 [.slice a0 n0 c0]) :
    Calls Try.prog 4 #[.slice a0 n0 c0] w fun e w' => e = .returned (.bool true) ∧ Below w.heap.size w w' := by
  obtain ⟨zs, hn, hC, hm⟩ := view_ints r0
  clear r0
  unfold maxLen at hm
  by_cases hbig : (1048576 : Int) < (n0 : Int)
  · go_enter Try.func4, Try.ntmps4
    go_wp2_with fail
    go_ret
    exact ⟨rfl, Below.refl _ _⟩
  · have hl : n0 ≤ 1048576 := by omega
    have hC' := Lib.hid hC
    have hn' := Lib.hid hn
    clear hC hn
    go_enter Try.func4, Try.ntmps4
    go_wp2_with fail
    refine (toIntS_ _ _ _ zs _ hn'.out hC'.out hl).mono ?_
    rintro e w1 ⟨rfl, rfl⟩
    go_wp2_with fail
    refine (sAgg _ _ _ zs _ hn'.out (by simpa using cel_lit w 3 (zs.map (Value.int .i64)).toArray) hl).mono ?_
    rintro e w1 ⟨rfl, rfl⟩
    go_wp2_with fail
    refine (toIntS_ _ _ _ zs _ hn'.out (hC'.out.ext (Ext.alloc_ _ _)) hl).mono ?_
    rintro e w1 ⟨rfl, rfl⟩
    have hx := cel_lit (w.alloc (.cells (zs.map (Value.int .i64)).toArray 3)) 3 (zs.map (Value.int .i64)).toArray
    have hx' := Lib.hid hx
    clear hx
    generalize hW : (w.alloc (.cells (zs.map (Value.int .i64)).toArray 3)).alloc (.cells (zs.map (Value.int .i64)).toArray 3) = W at *
    have hE : Ext w W := by rw [← hW]; exact Ext.trans (Ext.alloc_ _ _) (Ext.alloc_ _ _)
    clear hW
    go_wp2_with fail
    refine (iAgg _ _ _ zs _ hn'.out (by simpa using hx'.out) hl).mono ?_
    rintro e w1 ⟨rfl, rfl⟩
    go_wp2_with fail
    refine (toIntS_ _ _ _ zs _ hn'.out (hC'.out.ext hE) hl).mono ?_
    rintro e w1 ⟨rfl, rfl⟩
    go_wp2_with fail
    refine (eqIntS_ _ _ _ _ _ zs _ hn'.out ((by simpa using hx'.out : Cel W _ _).ext (Ext.alloc_ _ _)) (by simpa using cel_lit W 3 (zs.map (Value.int .i64)).toArray) (by omega)).mono ?_
    rintro e w2 ⟨rfl, hb2⟩
    go_wp2_with fail
    go_ret
    exact ⟨rfl, Ext.trans hE (Ext.trans (Ext.alloc_ _ _) hb2)⟩
theorem walk_FnExactFitsAggregate (a0 : Option Addr) (n0 c0 : Nat) (a1 a2 : Int) (w : World) (r0 : Rd Try.prog w 22 [.slice a0 n0 c0]) (w1 : (Lit.int .i64 a1).wf = true) (w2 : (Lit.int .i64 a2).wf = true) :
    Calls Try.prog 5 #[.slice a0 n0 c0, .int .i64 a1, .int .i64 a2] w fun e w' => e = .returned (.bool true) ∧ Below w.heap.size w w' := by
  obtain ⟨zs, hn, hC, hm⟩ := view_ints r0
  clear r0 w1 w2
  unfold maxLen at hm
  by_cases hbig : (1048576 : Int) < (n0 : Int)
  · go_enter Try.func5, Try.ntmps5
    go_wp2_with fail
    go_ret
    exact ⟨rfl, Below.refl _ _⟩
  · have hl : n0 ≤ 1048576 := by omega
    have hC' := Lib.hid hC
    have hn' := Lib.hid hn
    clear hC hn
    go_enter Try.func5, Try.ntmps5
    go_wp2_with fail
    refine (toIntS_ _ _ _ zs _ hn'.out hC'.out hl).mono ?_
    rintro e w1 ⟨rfl, rfl⟩
    go_wp2_with fail
    refine (sFit _ _ _ zs _ _ _ hn'.out (by simpa using cel_lit w 3 (zs.map (Value.int .i64)).toArray) hl).mono ?_
    rintro e w1 ⟨rfl, rfl⟩
    go_wp2_with fail
    refine (toIntS_ _ _ _ zs _ hn'.out (hC'.out.ext (Ext.alloc_ _ _)) hl).mono ?_
    rintro e w1 ⟨rfl, rfl⟩
    have hx := cel_lit (w.alloc (.cells (zs.map (Value.int .i64)).toArray 3)) 3 (zs.map (Value.int .i64)).toArray
    have hx' := Lib.hid hx
    clear hx
    generalize hW : (w.alloc (.cells (zs.map (Value.int .i64)).toArray 3)).alloc (.cells (zs.map (Value.int .i64)).toArray 3) = W at *
    have hE : Ext w W := by rw [← hW]; exact Ext.trans (Ext.alloc_ _ _) (Ext.alloc_ _ _)
    clear hW
    go_wp2_with fail
    refine (iFit _ _ _ zs _ _ _ hn'.out (by simpa using hx'.out) hl).mono ?_
    rintro e w1 ⟨rfl, rfl⟩
    go_wp2_with fail
    refine (toIntS_ _ _ _ zs _ hn'.out (hC'.out.ext hE) hl).mono ?_
    rintro e w1 ⟨rfl, rfl⟩
    go_wp2_with fail
    refine (eqIntS_ _ _ _ _ _ zs _ hn'.out ((by simpa using hx'.out : Cel W _ _).ext (Ext.alloc_ _ _)) (by simpa using cel_lit W 3 (zs.map (Value.int .i64)).toArray) (by omega)).mono ?_
    rintro e w2 ⟨rfl, hb2⟩
    go_wp2_with fail
    go_ret
    exact ⟨rfl, Ext.trans hE (Ext.trans (Ext.alloc_ _ _) hb2)⟩
end Go.Proofs.Ytchhjidldppciaa
