/- Frames: the size check, the copy and the comparison of the laws. -/
import Derived.Test.YtcjppmihmfcagaaEls
namespace Go.Proofs.Ytcjppmihmfcagaa
open Go.RowKit
set_option linter.unusedVariables false
set_option linter.unusedSimpArgs false

structure Mac where
  kd : Int
  fm : Int
  to : Int
  sq : Int
  fr : Int
  mo : Bool
  re : Bool
  du : Int
  body : List Int
def kMac : Kind Mac := { size := 9, hd := fun m v => [.int .i64 m.kd, .int .i64 m.fm, .int .i64 m.to, .int .i64 m.sq, .int .i64 m.fr, .bool m.mo, .bool m.re, .int .i64 m.du, v], bd := fun m => m.body, hlen := fun _ _ => rfl }
theorem mac_rd {w : World} {cs : List Value} (h : Rd Try.prog w 28 cs) : ∃ m : Mac, kE kMac w m cs ∧ m.body.length ≤ maxLen := by
  have hl := (Rd.struct Try.underlying28 h).1
  rw [show Try.prog.cellsOf 28 = 9 from by kernel_rfl] at hl
  obtain ⟨x0, h0⟩ := int_f Try.underlying28 h 0 _ rfl Try.underlying3 cells_int1
  obtain ⟨x1, h1⟩ := int_f Try.underlying28 h 1 _ rfl Try.underlying3 cells_int1
  obtain ⟨x2, h2⟩ := int_f Try.underlying28 h 2 _ rfl Try.underlying3 cells_int1
  obtain ⟨x3, h3⟩ := int_f Try.underlying28 h 3 _ rfl Try.underlying3 cells_int1
  obtain ⟨x4, h4⟩ := int_f Try.underlying28 h 4 _ rfl Try.underlying3 cells_int1
  obtain ⟨x5, h5⟩ := bool_f Try.underlying28 h 5 _ rfl Try.underlying4 (by kernel_rfl)
  obtain ⟨x6, h6⟩ := bool_f Try.underlying28 h 6 _ rfl Try.underlying4 (by kernel_rfl)
  obtain ⟨x7, h7⟩ := int_f Try.underlying28 h 7 _ rfl Try.underlying3 cells_int1
  obtain ⟨A, l, c, h8, h9, h10⟩ := bytes_f Try.underlying28 h 8 _ rfl rfl
  match cs, hl with
  | [c0, c1, c2, c3, c4, c5, c6, c7, c8], _ =>
    simp at h0 h1 h2 h3 h4 h5 h6 h7 h8
    subst h0 h1 h2 h3 h4 h5 h6 h7 h8
    exact ⟨⟨x0, x1, x2, x3, x4, x5, x6, x7, l⟩, ⟨A, c, rfl, h9⟩, h10⟩
theorem szMac_ (w : World) (kd fm to sq fr : Int) (mo re : Bool) (du : Int) (A : Option Addr) (n c : Nat) (left : Int) (hl : 0 ≤ left ∧ left ≤ 1048576) (hn : n ≤ maxLen) :
    Calls Try.prog 17 #[.agg #[.int .i64 kd, .int .i64 fm, .int .i64 to, .int .i64 sq, .int .i64 fr, .bool mo, .bool re, .int .i64 du, .slice A n c], .int .i64 left] w
      fun e w' => e = .returned (.int .i64 (if left < (n : Int) then -1 else left - n)) ∧ Below w.heap.size w w' := by
  have hn' := Lib.hid hn
  clear hn
  by_cases h : left < (n : Int)
  · rw [if_pos h]
    go_enter Try.func17, Try.ntmps17
    go_wp2_with fail
    refine (szByteS_ _ _ _ _ ⟨hl.1, by omega⟩ (by have := hn'.out; unfold maxLen at this; omega) _).mono ?_
    rintro e w' ⟨rfl, rfl⟩
    rw [if_pos h]
    go_wp2_with fail
    go_ret
    exact ⟨rfl, by repeat (first | (with_reducible exact Below.refl _ _) | (with_reducible assumption) | (with_reducible refine Below.alloc ?_ (by simp <;> omega) _) | (with_reducible refine Below.setCell ?_ (by simp <;> omega) _) | (with_reducible refine Below.drew ?_))⟩
  · rw [if_neg h]
    go_enter Try.func17, Try.ntmps17
    go_wp2_with fail
    refine (szByteS_ _ _ _ _ ⟨hl.1, by omega⟩ (by have := hn'.out; unfold maxLen at this; omega) _).mono ?_
    rintro e w' ⟨rfl, rfl⟩
    rw [if_neg (by omega)]
    have h2 : ¬ left - (n : Int) < 0 := by omega
    go_wp2_with fail
    go_ret
    exact ⟨rfl, by repeat (first | (with_reducible exact Below.refl _ _) | (with_reducible assumption) | (with_reducible refine Below.alloc ?_ (by simp <;> omega) _) | (with_reducible refine Below.setCell ?_ (by simp <;> omega) _) | (with_reducible refine Below.drew ?_))⟩
/-- A copied frame: its body is a new row. -/
theorem toMac_ (w : World) (kd fm to sq fr : Int) (mo re : Bool) (du : Int) (A : Option Addr) (n c : Nat) (l : List Int) (hn : l.length = n) (hr : RB w A c l) (hl : n ≤ 1048576) :
    Calls Try.prog 19 #[.agg #[.int .i64 kd, .int .i64 fm, .int .i64 to, .int .i64 sq, .int .i64 fr, .bool mo, .bool re, .int .i64 du, .slice A n c]] w
      fun e w' => ∃ g, e = .returned (.agg #[.int .i64 kd, .int .i64 fm, .int .i64 to, .int .i64 sq, .int .i64 fr, .bool mo, .bool re, .int .i64 du, .slice (some ⟨g, 0, none⟩) n n]) ∧ Ext w w' ∧ w.heap.size ≤ g ∧ w'.heap[g]? = some (.cells (l.map (Value.int .u8)).toArray 5 (0, 0)) := by
  have hr' := Lib.hid hr
  have hn' := Lib.hid hn
  clear hr hn
  go_enter Try.func19, Try.ntmps19
  go_wp2_with fail
  refine (toByteS_ _ _ _ l _ hn'.out (hr'.out.1.ext (Ext.trans (Ext.trans (Ext.alloc_ _ _) (Ext.alloc_ _ _)) (Ext.alloc_ _ _))) hl).mono ?_
  rintro e w1 ⟨rfl, rfl⟩
  go_wp2_with fail
  refine bodyPost_ret (v := .agg #[.int .i64 kd, .int .i64 fm, .int .i64 to, .int .i64 sq, .int .i64 fr, .bool mo, .bool re, .int .i64 du, .slice (some ⟨w.heap.size + 1 + 1 + 1, 0, none⟩) n n]) (by simp [results, Try.results19, go_sem]) rfl ⟨_, rfl, ?_, ?_, ?_⟩
  · repeat (first | exact Ext.alloc_ _ _ | refine Ext.trans ?_ (Ext.alloc_ _ _))
  · omega
  · have h := heap_alloc_new (((w.alloc (.cells #[.int .i64 kd, .int .i64 fm, .int .i64 to, .int .i64 sq, .int .i64 fr, .bool mo, .bool re, .int .i64 du, .slice A n c] 28)).alloc (.cells #[.int .i64 kd, .int .i64 fm, .int .i64 to, .int .i64 sq, .int .i64 fr, .bool mo, .bool re, .int .i64 du, .slice (some ⟨w.heap.size + 1 + 1 + 1, 0, none⟩) n n] 33)).alloc (.cells #[.int .i64 kd, .int .i64 fm, .int .i64 to, .int .i64 sq, .int .i64 fr, .bool mo, .bool re, .int .i64 du, .slice (some ⟨w.heap.size + 1 + 1 + 1, 0, none⟩) n n] 33)) (.cells (l.map (Value.int .u8)).toArray 5 (0, 0))
    simp only [World.size_alloc] at h
    exact h
/-- Two frames whose fields and bodies are the same are equal for the law. -/
theorem eqMac_ (w : World) (kd fm to sq fr : Int) (mo re : Bool) (du : Int) (A A' : Option Addr) (n c c' : Nat) (l : List Int) (hn : l.length = n) (hr : RB w A c l) (hr' : RB w A' c' l) (hl : n ≤ 1048576) :
    Calls Try.prog 22 #[.agg #[.int .i64 kd, .int .i64 fm, .int .i64 to, .int .i64 sq, .int .i64 fr, .bool mo, .bool re, .int .i64 du, .slice A n c], .agg #[.int .i64 kd, .int .i64 fm, .int .i64 to, .int .i64 sq, .int .i64 fr, .bool mo, .bool re, .int .i64 du, .slice A' n c']] w
      fun e w' => e = .returned (.bool true) ∧ Below w.heap.size w w' := by
  have hE := Ext.trans (Ext.alloc_ w (.cells #[.int .i64 kd, .int .i64 fm, .int .i64 to, .int .i64 sq, .int .i64 fr, .bool mo, .bool re, .int .i64 du, .slice A n c] 33)) (Ext.alloc_ _ (.cells #[.int .i64 kd, .int .i64 fm, .int .i64 to, .int .i64 sq, .int .i64 fr, .bool mo, .bool re, .int .i64 du, .slice A' n c'] 33))
  have H1 := Lib.hid (hr.ext hE)
  have H2 := Lib.hid (hr'.ext hE)
  have hn' := Lib.hid hn
  clear hr hr' hn hE
  cases mo <;> cases re
  all_goals
    go_enter Try.func22, Try.ntmps22
    go_wp2_with fail
    refine (eqByteS_ _ _ _ _ _ l _ hn'.out H1.out.1 H2.out.1 (by omega)).mono ?_
    rintro e w1 ⟨rfl, hb1⟩
    go_wp2_with fail
    go_ret
    exact ⟨rfl, Ext.trans (Ext.trans (Ext.alloc_ _ _) (Ext.alloc_ _ _)) hb1⟩
end Go.Proofs.Ytcjppmihmfcagaa
