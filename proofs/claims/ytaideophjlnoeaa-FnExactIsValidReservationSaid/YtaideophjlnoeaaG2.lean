/- Contracts and walks of the laws over reservations and access parameters. -/
import Derived.Test.YtaideophjlnoeaaG1
namespace Go.Proofs.Ytaideophjlnoeaa
open Go.RowKit
set_option linter.unusedVariables false
set_option linter.unusedSimpArgs false
theorem int_field {w : World} {cs : List Value} {fs : Array Field} {t : TypeId} (ht : Try.prog.underlying t = some (.struct fs)) (h : Rd Try.prog w t cs) (i : Nat) (f : Field) (hf : fs[i]? = some f)
    (hk : Try.prog.underlying f.type = some (.int .i64)) (hc : Try.prog.cellsOf f.type = 1) : ∃ n, (cs.drop f.offset).take 1 = [.int .i64 n] ∧ (Lit.int .i64 n).wf = true := by
  have h1 := (Rd.struct ht h).2 i f hf
  rw [hc] at h1
  exact Rd.int hk h1
theorem bool_field {w : World} {cs : List Value} {fs : Array Field} {t : TypeId} (ht : Try.prog.underlying t = some (.struct fs)) (h : Rd Try.prog w t cs) (i : Nat) (f : Field) (hf : fs[i]? = some f)
    (hk : Try.prog.underlying f.type = some .bool) (hc : Try.prog.cellsOf f.type = 1) : ∃ b, (cs.drop f.offset).take 1 = [.bool b] := by
  have h1 := (Rd.struct ht h).2 i f hf
  rw [hc] at h1
  exact Rd.bool hk h1
theorem cells_int : Try.prog.cellsOf 3 = 1 := by kernel_rfl
theorem view_res {w : World} {cs : Array Value} (h : Rd Try.prog w 26 (Value.agg cs).cells.toList) :
    ∃ u o b : Int, cs = #[.int .i64 u, .int .i64 o, .int .i64 b] ∧ (Lit.int .i64 u).wf = true ∧ (Lit.int .i64 o).wf = true ∧ (Lit.int .i64 b).wf = true := by
  obtain ⟨l⟩ := cs
  have hl := (Rd.struct Try.underlying26 h).1
  rw [show Try.prog.cellsOf 26 = 3 from by kernel_rfl] at hl
  obtain ⟨u, h1, w1⟩ := int_field Try.underlying26 h 0 _ rfl Try.underlying3 cells_int
  obtain ⟨o, h2, w2⟩ := int_field Try.underlying26 h 1 _ rfl Try.underlying3 cells_int
  obtain ⟨b, h3, w3⟩ := int_field Try.underlying26 h 2 _ rfl Try.underlying3 cells_int
  match l, hl with
  | [c0, c1, c2], _ =>
    simp [Value.cells] at h1 h2 h3
    subst h1 h2 h3
    exact ⟨u, o, b, rfl, w1, w2, w3⟩
theorem toRes (u o b : Int) (w : World) : Calls Try.prog 24 #[.agg #[.int .i64 u, .int .i64 o, .int .i64 b]] w fun e w' => e = .returned (.agg #[.int .i64 u, .int .i64 o, .int .i64 b]) ∧ Below w.heap.size w w' := by
  go_enter Try.func24, Try.ntmps24
  go_wp2
  exact bodyPost_ret (v := .agg #[.int .i64 u, .int .i64 o, .int .i64 b]) (by simp [results, Try.results24, go_sem]) rfl ⟨rfl, by
    repeat (first | exact Below.refl _ _ | refine Below.alloc ?_ (by simp <;> omega) _)⟩
def resB (u o b : Int) : Bool := inB u 0 1000000000000 && inB o 0 15 && inB b 0 15
theorem sResOk (u o b : Int) (w : World) : Calls Try.prog 23 #[.agg #[.int .i64 u, .int .i64 o, .int .i64 b]] w fun e w' => e = .returned (.bool (resB u o b)) ∧ Below w.heap.size w w' := by
  by_cases h1 : inB u 0 1000000000000 = true
  · by_cases h2 : inB o 0 15 = true
    · go_enter Try.func23, Try.ntmps23
      go_wp2_with (first | (go_at_call 44; refine (sIn _ _ _ _).mono ?_; rintro e w' ⟨rfl, rfl⟩) )
      all_goals go_ret
      all_goals exact ⟨by simp_all [resB], by repeat (first | exact Below.refl _ _ | assumption | refine Below.alloc ?_ (by simp <;> omega) _ | refine Below.setCell ?_ (by simp <;> omega) _ | refine Below.drew ?_)⟩
    · have h2' : inB o 0 15 = false := by simpa using h2
      go_enter Try.func23, Try.ntmps23
      go_wp2_with (first | (go_at_call 44; refine (sIn _ _ _ _).mono ?_; rintro e w' ⟨rfl, rfl⟩) )
      all_goals go_ret
      all_goals exact ⟨by simp_all [resB], by repeat (first | exact Below.refl _ _ | assumption | refine Below.alloc ?_ (by simp <;> omega) _ | refine Below.setCell ?_ (by simp <;> omega) _ | refine Below.drew ?_)⟩
  · have h1' : inB u 0 1000000000000 = false := by simpa using h1
    go_enter Try.func23, Try.ntmps23
    go_wp2_with (first | (go_at_call 44; refine (sIn _ _ _ _).mono ?_; rintro e w' ⟨rfl, rfl⟩) )
    all_goals go_ret
    all_goals exact ⟨by simp_all [resB], by repeat (first | exact Below.refl _ _ | assumption | refine Below.alloc ?_ (by simp <;> omega) _ | refine Below.setCell ?_ (by simp <;> omega) _ | refine Below.drew ?_)⟩
theorem iResOk (u o b : Int) (w : World) : Calls Try.prog 25 #[.agg #[.int .i64 u, .int .i64 o, .int .i64 b]] w fun e w' => e = .returned (.bool (resB u o b)) ∧ Below w.heap.size w w' := by
  by_cases h1 : inB u 0 1000000000000 = true
  · by_cases h2 : inB o 0 15 = true
    · go_enter Try.func25, Try.ntmps25
      go_wp2_with (first | (go_at_call 45; refine (iIn _ _ _ _).mono ?_; rintro e w' ⟨rfl, rfl⟩)  | (go_at_call 46; refine (iStation _ _).mono ?_; rintro e w' ⟨rfl, rfl⟩))
      all_goals go_ret
      all_goals exact ⟨by simp_all [resB], by repeat (first | exact Below.refl _ _ | assumption | refine Below.alloc ?_ (by simp <;> omega) _ | refine Below.setCell ?_ (by simp <;> omega) _ | refine Below.drew ?_)⟩
    · have h2' : inB o 0 15 = false := by simpa using h2
      go_enter Try.func25, Try.ntmps25
      go_wp2_with (first | (go_at_call 45; refine (iIn _ _ _ _).mono ?_; rintro e w' ⟨rfl, rfl⟩)  | (go_at_call 46; refine (iStation _ _).mono ?_; rintro e w' ⟨rfl, rfl⟩))
      all_goals go_ret
      all_goals exact ⟨by simp_all [resB], by repeat (first | exact Below.refl _ _ | assumption | refine Below.alloc ?_ (by simp <;> omega) _ | refine Below.setCell ?_ (by simp <;> omega) _ | refine Below.drew ?_)⟩
  · have h1' : inB u 0 1000000000000 = false := by simpa using h1
    go_enter Try.func25, Try.ntmps25
    go_wp2_with (first | (go_at_call 45; refine (iIn _ _ _ _).mono ?_; rintro e w' ⟨rfl, rfl⟩)  | (go_at_call 46; refine (iStation _ _).mono ?_; rintro e w' ⟨rfl, rfl⟩))
    all_goals go_ret
    all_goals exact ⟨by simp_all [resB], by repeat (first | exact Below.refl _ _ | assumption | refine Below.alloc ?_ (by simp <;> omega) _ | refine Below.setCell ?_ (by simp <;> omega) _ | refine Below.drew ?_)⟩
theorem walk_FnExactIsValidReservation (a0 : Array Value) (w : World) (r0 : Rd Try.prog w 26 (Value.agg a0).cells.toList) :
    Calls Try.prog 7 #[.agg a0] w fun e w' => e = .returned (.bool true) ∧ Below w.heap.size w w' := by
  obtain ⟨u, o, b, rfl, -, -, -⟩ := view_res r0
  clear r0
  go_enter Try.func7, Try.ntmps7
  go_wp2_with fail
  refine (toRes _ _ _ _).mono ?_
  rintro e w1 ⟨rfl, hb1⟩
  go_wp2_with fail
  refine (sResOk _ _ _ _).mono ?_
  rintro e w2 ⟨rfl, hb2⟩
  have hb := Ext.trans hb1 hb2
  clear hb1 hb2
  obtain ⟨hc2, hf2⟩ := bcell hb
  go_wp2_with fail
  refine (toRes _ _ _ _).mono ?_
  rintro e w3 ⟨rfl, hb3⟩
  go_wp2_with fail
  refine (iResOk _ _ _ _).mono ?_
  rintro e w4 ⟨rfl, hb4⟩
  go_wp2_with fail
  go_ret
  exact ⟨rfl, Below.of_alloc (Ext.trans hb (Ext.trans hb3 hb4))⟩
theorem eqRes (u o b : Int) (w : World) : Calls Try.prog 33 #[.agg #[.int .i64 u, .int .i64 o, .int .i64 b], .agg #[.int .i64 u, .int .i64 o, .int .i64 b]] w fun e w' => e = .returned (.bool true) ∧ Below w.heap.size w w' := by
  go_enter Try.func33, Try.ntmps33
  go_wp2
  go_ret
  exact ⟨rfl, by repeat (first | exact Below.refl _ _ | assumption | refine Below.alloc ?_ (by simp <;> omega) _ | refine Below.setCell ?_ (by simp <;> omega) _ | refine Below.drew ?_)⟩
def cmb (u1 u2 x y : Int) : Int := if u1 < u2 then y else x
theorem cmb_lt {u1 u2 x y : Int} (h : u1 < u2) : cmb u1 u2 x y = y := by simp [cmb, h]
theorem cmb_ge {u1 u2 x y : Int} (h : ¬ u1 < u2) : cmb u1 u2 x y = x := by simp [cmb, h]
theorem sComb (u1 o1 b1 u2 o2 b2 : Int) (w : World) : Calls Try.prog 31 #[.agg #[.int .i64 u1, .int .i64 o1, .int .i64 b1], .agg #[.int .i64 u2, .int .i64 o2, .int .i64 b2]] w
    fun e w' => e = .returned (.agg #[.int .i64 (cmb u1 u2 u1 u2), .int .i64 (cmb u1 u2 o1 o2), .int .i64 (cmb u1 u2 b1 b2)]) ∧ Below w.heap.size w w' := by
  by_cases h : u1 < u2
  · simp only [cmb_lt h]
    go_enter Try.func31, Try.ntmps31
    go_wp2
    exact bodyPost_ret (v := .agg #[.int .i64 u2, .int .i64 o2, .int .i64 b2]) (by simp [results, Try.results31, go_sem]) rfl ⟨rfl, by repeat (first | exact Below.refl _ _ | assumption | refine Below.alloc ?_ (by simp <;> omega) _ | refine Below.setCell ?_ (by simp <;> omega) _ | refine Below.drew ?_)⟩
  · simp only [cmb_ge h]
    go_enter Try.func31, Try.ntmps31
    go_wp2
    exact bodyPost_ret (v := .agg #[.int .i64 u1, .int .i64 o1, .int .i64 b1]) (by simp [results, Try.results31, go_sem]) rfl ⟨rfl, by repeat (first | exact Below.refl _ _ | assumption | refine Below.alloc ?_ (by simp <;> omega) _ | refine Below.setCell ?_ (by simp <;> omega) _ | refine Below.drew ?_)⟩
theorem iComb (u1 o1 b1 u2 o2 b2 : Int) (w : World) : Calls Try.prog 32 #[.agg #[.int .i64 u1, .int .i64 o1, .int .i64 b1], .agg #[.int .i64 u2, .int .i64 o2, .int .i64 b2]] w
    fun e w' => e = .returned (.agg #[.int .i64 (cmb u1 u2 u1 u2), .int .i64 (cmb u1 u2 o1 o2), .int .i64 (cmb u1 u2 b1 b2)]) ∧ Below w.heap.size w w' := by
  by_cases h : u1 < u2
  · simp only [cmb_lt h]
    go_enter Try.func32, Try.ntmps32
    go_wp2
    exact bodyPost_ret (v := .agg #[.int .i64 u2, .int .i64 o2, .int .i64 b2]) (by simp [results, Try.results32, go_sem]) rfl ⟨rfl, by repeat (first | exact Below.refl _ _ | assumption | refine Below.alloc ?_ (by simp <;> omega) _ | refine Below.setCell ?_ (by simp <;> omega) _ | refine Below.drew ?_)⟩
  · simp only [cmb_ge h]
    go_enter Try.func32, Try.ntmps32
    go_wp2
    exact bodyPost_ret (v := .agg #[.int .i64 u1, .int .i64 o1, .int .i64 b1]) (by simp [results, Try.results32, go_sem]) rfl ⟨rfl, by repeat (first | exact Below.refl _ _ | assumption | refine Below.alloc ?_ (by simp <;> omega) _ | refine Below.setCell ?_ (by simp <;> omega) _ | refine Below.drew ?_)⟩
end Go.Proofs.Ytaideophjlnoeaa
