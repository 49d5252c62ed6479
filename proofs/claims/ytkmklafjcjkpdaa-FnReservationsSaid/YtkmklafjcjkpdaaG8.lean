/- Contracts and walks: ready, slots, new backoffs, ticks. -/
import Derived.Test.YtkmklafjcjkpdaaG7
namespace Go.Proofs.Ytkmklafjcjkpdaa
open Go.RowKit
set_option linter.unusedVariables false
set_option linter.unusedSimpArgs false
theorem fnd_bd {a m x b wd : Int} (h : parB a m x b = true) (hf : fndB a m x b wd = true) : 1 ≤ wd ∧ wd ≤ 1023 ∧ m ≤ wd ∧ wd ≤ x := by
  obtain ⟨a1, a2, m1, m2, x1, x2, mx⟩ := parB_bd h
  simp only [fndB, fndK, List.any_eq_true, List.mem_range, beq_iff_eq] at hf
  obtain ⟨n, hn, rfl⟩ := hf
  have := wafN_bd m1 mx (min (n : Int) 20).toNat
  simp only [wafV, h, if_true]
  omega
theorem bk_bd {a m x b wd wt il rt dr : Int} (h : bkB a m x b wd wt il rt dr = true) : 1 ≤ a ∧ a ≤ 15 ∧ 1 ≤ m ∧ m ≤ 1023 ∧ 1 ≤ wd ∧ wd ≤ 1023 ∧ 0 ≤ wt ∧ wt ≤ wd ∧ 0 ≤ il ∧ il ≤ a ∧ 0 ≤ rt ∧ rt ≤ 7 ∧ 0 ≤ dr ∧ dr ≤ 1000000000000 := by
  obtain ⟨h1, h2, h3, h4, h5, h6⟩ := bkB_true h
  obtain ⟨a1, a2, m1, m2, x1, x2, mx⟩ := parB_bd h1
  obtain ⟨w1, w2, -, -⟩ := fnd_bd h1 h2
  have k3 := inB_true h3
  have k4 := inB_true h4
  have k5 := inB_true h5
  have k6 := inB_true h6
  exact ⟨a1, a2, m1, m2, w1, w2, k3.1, k3.2, k4.1, k4.2, k5.1, k5.2, k6.1, k6.2⟩
def rdyB (a m x b wd wt il rt dr : Int) : Bool := bkB a m x b wd wt il rt dr && (il == a) && (wt == 0)
theorem sRdy (a m x b wd wt il rt dr : Int) (w : World) : Calls Try.prog 156 #[.agg #[.int .i64 a, .int .i64 m, .int .i64 x, .int .i64 b, .int .i64 wd, .int .i64 wt, .int .i64 il, .int .i64 rt, .int .i64 dr]] w fun e w' => e = .returned (.bool (rdyB a m x b wd wt il rt dr)) ∧ Below w.heap.size w w' := by
  by_cases h1 : bkB a m x b wd wt il rt dr = true
  · by_cases h2 : (il == a) = true
    · have HF := Lib.hid (show rdyB a m x b wd wt il rt dr = (wt == 0) by simp [rdyB, h1, h2])
      go_enter Try.func156, Try.ntmps156
      go_wp2_with fail
      refine (sBkOk _ _ _ _ _ _ _ _ _ _).mono ?_
      rintro e w1 ⟨rfl, hb1⟩
      obtain ⟨hc1, hf1⟩ := bcell (hb1)
      have hz1 : w.heap.size < w1.heap.size := by have := hb1.size; simp at this; omega
      have hb0 : Below w.heap.size w w1 := Ext.trans (Ext.alloc_ _ _) hb1
      clear hb1
      go_wp2_with fail
      go_ret
      exact ⟨by rw [HF.out]; rfl, hb0⟩
    · have h2' : (il == a) = false := by simpa using h2
      have HF := Lib.hid (show rdyB a m x b wd wt il rt dr = false by simp [rdyB, h2'])
      clear h2
      go_enter Try.func156, Try.ntmps156
      go_wp2_with fail
      refine (sBkOk _ _ _ _ _ _ _ _ _ _).mono ?_
      rintro e w1 ⟨rfl, hb1⟩
      obtain ⟨hc1, hf1⟩ := bcell (hb1)
      have hz1 : w.heap.size < w1.heap.size := by have := hb1.size; simp at this; omega
      have hb0 : Below w.heap.size w w1 := Ext.trans (Ext.alloc_ _ _) hb1
      clear hb1
      go_wp2_with fail
      go_ret
      exact ⟨by rw [HF.out]; rfl, hb0⟩
  · have h1' : bkB a m x b wd wt il rt dr = false := by simpa using h1
    have HF := Lib.hid (show rdyB a m x b wd wt il rt dr = false by simp [rdyB, h1'])
    clear h1
    go_enter Try.func156, Try.ntmps156
    go_wp2_with fail
    refine (sBkOk _ _ _ _ _ _ _ _ _ _).mono ?_
    rintro e w1 ⟨rfl, hb1⟩
    obtain ⟨hc1, hf1⟩ := bcell (hb1)
    have hz1 : w.heap.size < w1.heap.size := by have := hb1.size; simp at this; omega
    have hb0 : Below w.heap.size w w1 := Ext.trans (Ext.alloc_ _ _) hb1
    clear hb1
    go_wp2_with fail
    go_ret
    exact ⟨by rw [HF.out]; rfl, hb0⟩
theorem iRdy (a m x b wd wt il rt dr : Int) (w : World) : Calls Try.prog 18 #[.agg #[.int .i64 a, .int .i64 m, .int .i64 x, .int .i64 b, .int .i64 wd, .int .i64 wt, .int .i64 il, .int .i64 rt, .int .i64 dr]] w fun e w' => e = .returned (.bool (rdyB a m x b wd wt il rt dr)) ∧ Below w.heap.size w w' := by
  by_cases h1 : bkB a m x b wd wt il rt dr = true
  · by_cases h2 : (il == a) = true
    · have HF := Lib.hid (show rdyB a m x b wd wt il rt dr = (wt == 0) by simp [rdyB, h1, h2])
      go_enter Try.func18, Try.ntmps18
      go_wp2_with fail
      refine (iBkOk _ _ _ _ _ _ _ _ _ _).mono ?_
      rintro e w1 ⟨rfl, hb1⟩
      obtain ⟨hc1, hf1⟩ := bcell (hb1)
      have hz1 : w.heap.size < w1.heap.size := by have := hb1.size; simp at this; omega
      have hb0 : Below w.heap.size w w1 := Ext.trans (Ext.alloc_ _ _) hb1
      clear hb1
      go_wp2_with fail
      go_ret
      exact ⟨by rw [HF.out]; rfl, hb0⟩
    · have h2' : (il == a) = false := by simpa using h2
      have HF := Lib.hid (show rdyB a m x b wd wt il rt dr = false by simp [rdyB, h2'])
      clear h2
      go_enter Try.func18, Try.ntmps18
      go_wp2_with fail
      refine (iBkOk _ _ _ _ _ _ _ _ _ _).mono ?_
      rintro e w1 ⟨rfl, hb1⟩
      obtain ⟨hc1, hf1⟩ := bcell (hb1)
      have hz1 : w.heap.size < w1.heap.size := by have := hb1.size; simp at this; omega
      have hb0 : Below w.heap.size w w1 := Ext.trans (Ext.alloc_ _ _) hb1
      clear hb1
      go_wp2_with fail
      go_ret
      exact ⟨by rw [HF.out]; rfl, hb0⟩
  · have h1' : bkB a m x b wd wt il rt dr = false := by simpa using h1
    have HF := Lib.hid (show rdyB a m x b wd wt il rt dr = false by simp [rdyB, h1'])
    clear h1
    go_enter Try.func18, Try.ntmps18
    go_wp2_with fail
    refine (iBkOk _ _ _ _ _ _ _ _ _ _).mono ?_
    rintro e w1 ⟨rfl, hb1⟩
    obtain ⟨hc1, hf1⟩ := bcell (hb1)
    have hz1 : w.heap.size < w1.heap.size := by have := hb1.size; simp at this; omega
    have hb0 : Below w.heap.size w w1 := Ext.trans (Ext.alloc_ _ _) hb1
    clear hb1
    go_wp2_with fail
    go_ret
    exact ⟨by rw [HF.out]; rfl, hb0⟩
def slotV (a m x b wd wt il rt dr : Int) : Int := if bkB a m x b wd wt il rt dr then a - il + wt else -1
theorem iSlot (a m x b wd wt il rt dr : Int) (w : World) : Calls Try.prog 15 #[.agg #[.int .i64 a, .int .i64 m, .int .i64 x, .int .i64 b, .int .i64 wd, .int .i64 wt, .int .i64 il, .int .i64 rt, .int .i64 dr]] w fun e w' => e = .returned (.int .i64 (slotV a m x b wd wt il rt dr)) ∧ Below w.heap.size w w' := by
  by_cases h1 : bkB a m x b wd wt il rt dr = true
  · obtain ⟨a1, a2, m1, m2, d1, d2, t1, t2, i1, i2, r1, r2, g1, g2⟩ := bk_bd h1
    have e1 : slotV a m x b wd wt il rt dr = a - il + wt := by simp [slotV, h1]
    rw [e1]
    clear e1
    go_enter Try.func15, Try.ntmps15
    go_wp2_with fail
    refine (iBkOk _ _ _ _ _ _ _ _ _ _).mono ?_
    rintro e w1 ⟨rfl, hb1⟩
    obtain ⟨hc1, hf1⟩ := bcell (hb1)
    have hz1 : w.heap.size < w1.heap.size := by have := hb1.size; simp at this; omega
    have hb0 : Below w.heap.size w w1 := Ext.trans (Ext.alloc_ _ _) hb1
    clear hb1
    go_wp2_with fail
    go_ret
    exact ⟨rfl, hb0⟩
  · have h1' : bkB a m x b wd wt il rt dr = false := by simpa using h1
    have e1 : slotV a m x b wd wt il rt dr = -1 := by simp [slotV, h1']
    rw [e1]
    clear e1 h1
    go_enter Try.func15, Try.ntmps15
    go_wp2_with fail
    refine (iBkOk _ _ _ _ _ _ _ _ _ _).mono ?_
    rintro e w1 ⟨rfl, hb1⟩
    obtain ⟨hc1, hf1⟩ := bcell (hb1)
    have hz1 : w.heap.size < w1.heap.size := by have := hb1.size; simp at this; omega
    have hb0 : Below w.heap.size w w1 := Ext.trans (Ext.alloc_ _ _) hb1
    clear hb1
    go_wp2_with fail
    go_ret
    exact ⟨rfl, hb0⟩
def tkI (ok busy : Bool) (a il : Int) : Int := if ok then (if busy then 0 else if il < a then il + 1 else il) else il
def tkW (ok busy : Bool) (a il wt : Int) : Int := if ok && !busy && !decide (il < a) && decide (0 < wt) then wt - 1 else wt
set_option maxHeartbeats 1000000 in
theorem sTick (a m x b wd wt il rt dr : Int) (bz : Bool) (w : World) : Calls Try.prog 154 #[.agg #[.int .i64 a, .int .i64 m, .int .i64 x, .int .i64 b, .int .i64 wd, .int .i64 wt, .int .i64 il, .int .i64 rt, .int .i64 dr], .bool bz] w
    fun e w' => e = .returned (.agg #[.int .i64 a, .int .i64 m, .int .i64 x, .int .i64 b, .int .i64 wd, .int .i64 (tkW (bkB a m x b wd wt il rt dr) bz a il wt), .int .i64 (tkI (bkB a m x b wd wt il rt dr) bz a il), .int .i64 rt, .int .i64 dr]) ∧ Below w.heap.size w w' := by
  by_cases h1 : bkB a m x b wd wt il rt dr = true
  · obtain ⟨a1, a2, m1, m2, d1, d2, t1, t2, i1, i2, r1, r2, g1, g2⟩ := bk_bd h1
    cases bz with
    | true =>
      have e1 : tkI (bkB a m x b wd wt il rt dr) true a il = 0 := by simp [tkI, h1]
      have e2 : tkW (bkB a m x b wd wt il rt dr) true a il wt = wt := by simp [tkW]
      rw [e1, e2]
      clear e1 e2
      go_enter Try.func154, Try.ntmps154
      go_wp2_with fail
      refine (sBkOk _ _ _ _ _ _ _ _ _ _).mono ?_
      rintro e w1 ⟨rfl, hb1⟩
      obtain ⟨hc1, hf1⟩ := bcell (hb1)
      have hz1 : w.heap.size < w1.heap.size := by have := hb1.size; simp at this; omega
      have c6 : w1.cell? ⟨w.heap.size, 6, none⟩ = some (.int .i64 il) := by rw [hc1 _ _ (by simp <;> omega)]; simp [go_sem]
      have c5 : w1.cell? ⟨w.heap.size, 5, none⟩ = some (.int .i64 wt) := by rw [hc1 _ _ (by simp <;> omega)]; simp [go_sem]
      have hb0 : Below w.heap.size w w1 := by first | exact Ext.trans (Ext.alloc_ _ _) hb1 | exact Ext.trans (Ext.trans (Ext.alloc_ _ _) (Ext.alloc_ _ _)) hb1 | exact Ext.trans (Ext.trans (Ext.trans (Ext.alloc_ _ _) (Ext.alloc_ _ _)) (Ext.alloc_ _ _)) hb1
      clear hb1
      go_wp2_with fail
      exact bodyPost_ret (v := .agg #[.int .i64 a, .int .i64 m, .int .i64 x, .int .i64 b, .int .i64 wd, .int .i64 wt, .int .i64 0, .int .i64 rt, .int .i64 dr]) (by simp [results, Try.results154, go_sem, *]) rfl ⟨rfl, by repeat (first | (with_reducible exact Below.refl _ _) | (with_reducible assumption) | (with_reducible refine Below.alloc ?_ (by simp <;> omega) _) | (with_reducible refine Below.setCell ?_ (by simp <;> omega) _) | (with_reducible refine Below.drew ?_))⟩
    | false =>
      by_cases h2 : il < a
      · have e1 : tkI (bkB a m x b wd wt il rt dr) false a il = il + 1 := by simp [tkI, h1, h2]
        have e2 : tkW (bkB a m x b wd wt il rt dr) false a il wt = wt := by simp [tkW, h2]
        rw [e1, e2]
        clear e1 e2
        go_enter Try.func154, Try.ntmps154
        go_wp2_with fail
        refine (sBkOk _ _ _ _ _ _ _ _ _ _).mono ?_
        rintro e w1 ⟨rfl, hb1⟩
        obtain ⟨hc1, hf1⟩ := bcell (hb1)
        have hz1 : w.heap.size < w1.heap.size := by have := hb1.size; simp at this; omega
        have c6 : w1.cell? ⟨w.heap.size, 6, none⟩ = some (.int .i64 il) := by rw [hc1 _ _ (by simp <;> omega)]; simp [go_sem]
        have c5 : w1.cell? ⟨w.heap.size, 5, none⟩ = some (.int .i64 wt) := by rw [hc1 _ _ (by simp <;> omega)]; simp [go_sem]
        have hb0 : Below w.heap.size w w1 := by first | exact Ext.trans (Ext.alloc_ _ _) hb1 | exact Ext.trans (Ext.trans (Ext.alloc_ _ _) (Ext.alloc_ _ _)) hb1 | exact Ext.trans (Ext.trans (Ext.trans (Ext.alloc_ _ _) (Ext.alloc_ _ _)) (Ext.alloc_ _ _)) hb1
        clear hb1
        go_wp2_with fail
        exact bodyPost_ret (v := .agg #[.int .i64 a, .int .i64 m, .int .i64 x, .int .i64 b, .int .i64 wd, .int .i64 wt, .int .i64 (il + 1), .int .i64 rt, .int .i64 dr]) (by simp [results, Try.results154, go_sem, *]) rfl ⟨rfl, by repeat (first | (with_reducible exact Below.refl _ _) | (with_reducible assumption) | (with_reducible refine Below.alloc ?_ (by simp <;> omega) _) | (with_reducible refine Below.setCell ?_ (by simp <;> omega) _) | (with_reducible refine Below.drew ?_))⟩
      · have h2' : decide (il < a) = false := by simpa using h2
        have e1 : tkI (bkB a m x b wd wt il rt dr) false a il = il := by simp [tkI, h2]
        by_cases h3 : 0 < wt
        · have e2 : tkW (bkB a m x b wd wt il rt dr) false a il wt = wt - 1 := by simp [tkW, h1, h2', h3] <;> omega
          rw [e1, e2]
          clear e1 e2
          go_enter Try.func154, Try.ntmps154
          go_wp2_with fail
          refine (sBkOk _ _ _ _ _ _ _ _ _ _).mono ?_
          rintro e w1 ⟨rfl, hb1⟩
          obtain ⟨hc1, hf1⟩ := bcell (hb1)
          have hz1 : w.heap.size < w1.heap.size := by have := hb1.size; simp at this; omega
          have c6 : w1.cell? ⟨w.heap.size, 6, none⟩ = some (.int .i64 il) := by rw [hc1 _ _ (by simp <;> omega)]; simp [go_sem]
          have c5 : w1.cell? ⟨w.heap.size, 5, none⟩ = some (.int .i64 wt) := by rw [hc1 _ _ (by simp <;> omega)]; simp [go_sem]
          have hb0 : Below w.heap.size w w1 := by first | exact Ext.trans (Ext.alloc_ _ _) hb1 | exact Ext.trans (Ext.trans (Ext.alloc_ _ _) (Ext.alloc_ _ _)) hb1 | exact Ext.trans (Ext.trans (Ext.trans (Ext.alloc_ _ _) (Ext.alloc_ _ _)) (Ext.alloc_ _ _)) hb1
          clear hb1
          go_wp2_with fail
          exact bodyPost_ret (v := .agg #[.int .i64 a, .int .i64 m, .int .i64 x, .int .i64 b, .int .i64 wd, .int .i64 (wt - 1), .int .i64 il, .int .i64 rt, .int .i64 dr]) (by simp [results, Try.results154, go_sem, *]) rfl ⟨rfl, by repeat (first | (with_reducible exact Below.refl _ _) | (with_reducible assumption) | (with_reducible refine Below.alloc ?_ (by simp <;> omega) _) | (with_reducible refine Below.setCell ?_ (by simp <;> omega) _) | (with_reducible refine Below.drew ?_))⟩
        · have h3' : decide (0 < wt) = false := by simpa using h3
          have e2 : tkW (bkB a m x b wd wt il rt dr) false a il wt = wt := by simp [tkW, h3]
          rw [e1, e2]
          clear e1 e2
          go_enter Try.func154, Try.ntmps154
          go_wp2_with fail
          refine (sBkOk _ _ _ _ _ _ _ _ _ _).mono ?_
          rintro e w1 ⟨rfl, hb1⟩
          obtain ⟨hc1, hf1⟩ := bcell (hb1)
          have hz1 : w.heap.size < w1.heap.size := by have := hb1.size; simp at this; omega
          have c6 : w1.cell? ⟨w.heap.size, 6, none⟩ = some (.int .i64 il) := by rw [hc1 _ _ (by simp <;> omega)]; simp [go_sem]
          have c5 : w1.cell? ⟨w.heap.size, 5, none⟩ = some (.int .i64 wt) := by rw [hc1 _ _ (by simp <;> omega)]; simp [go_sem]
          have hb0 : Below w.heap.size w w1 := by first | exact Ext.trans (Ext.alloc_ _ _) hb1 | exact Ext.trans (Ext.trans (Ext.alloc_ _ _) (Ext.alloc_ _ _)) hb1 | exact Ext.trans (Ext.trans (Ext.trans (Ext.alloc_ _ _) (Ext.alloc_ _ _)) (Ext.alloc_ _ _)) hb1
          clear hb1
          go_wp2_with fail
          exact bodyPost_ret (v := .agg #[.int .i64 a, .int .i64 m, .int .i64 x, .int .i64 b, .int .i64 wd, .int .i64 wt, .int .i64 il, .int .i64 rt, .int .i64 dr]) (by simp [results, Try.results154, go_sem, *]) rfl ⟨rfl, by repeat (first | (with_reducible exact Below.refl _ _) | (with_reducible assumption) | (with_reducible refine Below.alloc ?_ (by simp <;> omega) _) | (with_reducible refine Below.setCell ?_ (by simp <;> omega) _) | (with_reducible refine Below.drew ?_))⟩
  · have h1' : bkB a m x b wd wt il rt dr = false := by simpa using h1
    have e1 : tkI (bkB a m x b wd wt il rt dr) bz a il = il := by simp [tkI, h1']
    have e2 : tkW (bkB a m x b wd wt il rt dr) bz a il wt = wt := by simp [tkW, h1']
    rw [e1, e2]
    clear e1 e2 h1
    go_enter Try.func154, Try.ntmps154
    go_wp2_with fail
    refine (sBkOk _ _ _ _ _ _ _ _ _ _).mono ?_
    rintro e w1 ⟨rfl, hb1⟩
    obtain ⟨hc1, hf1⟩ := bcell (hb1)
    have hz1 : w.heap.size < w1.heap.size := by have := hb1.size; simp at this; omega
    have c6 : w1.cell? ⟨w.heap.size, 6, none⟩ = some (.int .i64 il) := by rw [hc1 _ _ (by simp <;> omega)]; simp [go_sem]
    have c5 : w1.cell? ⟨w.heap.size, 5, none⟩ = some (.int .i64 wt) := by rw [hc1 _ _ (by simp <;> omega)]; simp [go_sem]
    have hb0 : Below w.heap.size w w1 := by first | exact Ext.trans (Ext.alloc_ _ _) hb1 | exact Ext.trans (Ext.trans (Ext.alloc_ _ _) (Ext.alloc_ _ _)) hb1 | exact Ext.trans (Ext.trans (Ext.trans (Ext.alloc_ _ _) (Ext.alloc_ _ _)) (Ext.alloc_ _ _)) hb1
    clear hb1
    go_wp2_with fail
    exact bodyPost_ret (v := .agg #[.int .i64 a, .int .i64 m, .int .i64 x, .int .i64 b, .int .i64 wd, .int .i64 wt, .int .i64 il, .int .i64 rt, .int .i64 dr]) (by simp [results, Try.results154, go_sem, *]) rfl ⟨rfl, by repeat (first | (with_reducible exact Below.refl _ _) | (with_reducible assumption) | (with_reducible refine Below.alloc ?_ (by simp <;> omega) _) | (with_reducible refine Below.setCell ?_ (by simp <;> omega) _) | (with_reducible refine Below.drew ?_))⟩
set_option maxHeartbeats 1000000 in
theorem iTick (a m x b wd wt il rt dr : Int) (bz : Bool) (w : World) : Calls Try.prog 17 #[.agg #[.int .i64 a, .int .i64 m, .int .i64 x, .int .i64 b, .int .i64 wd, .int .i64 wt, .int .i64 il, .int .i64 rt, .int .i64 dr], .bool bz] w
    fun e w' => e = .returned (.agg #[.int .i64 a, .int .i64 m, .int .i64 x, .int .i64 b, .int .i64 wd, .int .i64 (tkW (bkB a m x b wd wt il rt dr) bz a il wt), .int .i64 (tkI (bkB a m x b wd wt il rt dr) bz a il), .int .i64 rt, .int .i64 dr]) ∧ Below w.heap.size w w' := by
  by_cases h1 : bkB a m x b wd wt il rt dr = true
  · obtain ⟨a1, a2, m1, m2, d1, d2, t1, t2, i1, i2, r1, r2, g1, g2⟩ := bk_bd h1
    cases bz with
    | true =>
      have e1 : tkI (bkB a m x b wd wt il rt dr) true a il = 0 := by simp [tkI, h1]
      have e2 : tkW (bkB a m x b wd wt il rt dr) true a il wt = wt := by simp [tkW]
      rw [e1, e2]
      clear e1 e2
      go_enter Try.func17, Try.ntmps17
      go_wp2_with fail
      refine (iBkOk _ _ _ _ _ _ _ _ _ _).mono ?_
      rintro e w1 ⟨rfl, hb1⟩
      obtain ⟨hc1, hf1⟩ := bcell (hb1)
      have hz1 : w.heap.size < w1.heap.size := by have := hb1.size; simp at this; omega
      have c6 : w1.cell? ⟨w.heap.size, 6, none⟩ = some (.int .i64 il) := by rw [hc1 _ _ (by simp <;> omega)]; simp [go_sem]
      have c5 : w1.cell? ⟨w.heap.size, 5, none⟩ = some (.int .i64 wt) := by rw [hc1 _ _ (by simp <;> omega)]; simp [go_sem]
      have hb0 : Below w.heap.size w w1 := by first | exact Ext.trans (Ext.alloc_ _ _) hb1 | exact Ext.trans (Ext.trans (Ext.alloc_ _ _) (Ext.alloc_ _ _)) hb1 | exact Ext.trans (Ext.trans (Ext.trans (Ext.alloc_ _ _) (Ext.alloc_ _ _)) (Ext.alloc_ _ _)) hb1
      clear hb1
      go_wp2_with fail
      exact bodyPost_ret (v := .agg #[.int .i64 a, .int .i64 m, .int .i64 x, .int .i64 b, .int .i64 wd, .int .i64 wt, .int .i64 0, .int .i64 rt, .int .i64 dr]) (by simp [results, Try.results17, go_sem, *]) rfl ⟨rfl, by repeat (first | (with_reducible exact Below.refl _ _) | (with_reducible assumption) | (with_reducible refine Below.alloc ?_ (by simp <;> omega) _) | (with_reducible refine Below.setCell ?_ (by simp <;> omega) _) | (with_reducible refine Below.drew ?_))⟩
    | false =>
      by_cases h2 : il < a
      · have e1 : tkI (bkB a m x b wd wt il rt dr) false a il = il + 1 := by simp [tkI, h1, h2]
        have e2 : tkW (bkB a m x b wd wt il rt dr) false a il wt = wt := by simp [tkW, h2]
        rw [e1, e2]
        clear e1 e2
        go_enter Try.func17, Try.ntmps17
        go_wp2_with fail
        refine (iBkOk _ _ _ _ _ _ _ _ _ _).mono ?_
        rintro e w1 ⟨rfl, hb1⟩
        obtain ⟨hc1, hf1⟩ := bcell (hb1)
        have hz1 : w.heap.size < w1.heap.size := by have := hb1.size; simp at this; omega
        have c6 : w1.cell? ⟨w.heap.size, 6, none⟩ = some (.int .i64 il) := by rw [hc1 _ _ (by simp <;> omega)]; simp [go_sem]
        have c5 : w1.cell? ⟨w.heap.size, 5, none⟩ = some (.int .i64 wt) := by rw [hc1 _ _ (by simp <;> omega)]; simp [go_sem]
        have hb0 : Below w.heap.size w w1 := by first | exact Ext.trans (Ext.alloc_ _ _) hb1 | exact Ext.trans (Ext.trans (Ext.alloc_ _ _) (Ext.alloc_ _ _)) hb1 | exact Ext.trans (Ext.trans (Ext.trans (Ext.alloc_ _ _) (Ext.alloc_ _ _)) (Ext.alloc_ _ _)) hb1
        clear hb1
        go_wp2_with fail
        exact bodyPost_ret (v := .agg #[.int .i64 a, .int .i64 m, .int .i64 x, .int .i64 b, .int .i64 wd, .int .i64 wt, .int .i64 (il + 1), .int .i64 rt, .int .i64 dr]) (by simp [results, Try.results17, go_sem, *]) rfl ⟨rfl, by repeat (first | (with_reducible exact Below.refl _ _) | (with_reducible assumption) | (with_reducible refine Below.alloc ?_ (by simp <;> omega) _) | (with_reducible refine Below.setCell ?_ (by simp <;> omega) _) | (with_reducible refine Below.drew ?_))⟩
      · have h2' : decide (il < a) = false := by simpa using h2
        have e1 : tkI (bkB a m x b wd wt il rt dr) false a il = il := by simp [tkI, h2]
        by_cases h3 : 0 < wt
        · have e2 : tkW (bkB a m x b wd wt il rt dr) false a il wt = wt - 1 := by simp [tkW, h1, h2', h3] <;> omega
          rw [e1, e2]
          clear e1 e2
          go_enter Try.func17, Try.ntmps17
          go_wp2_with fail
          refine (iBkOk _ _ _ _ _ _ _ _ _ _).mono ?_
          rintro e w1 ⟨rfl, hb1⟩
          obtain ⟨hc1, hf1⟩ := bcell (hb1)
          have hz1 : w.heap.size < w1.heap.size := by have := hb1.size; simp at this; omega
          have c6 : w1.cell? ⟨w.heap.size, 6, none⟩ = some (.int .i64 il) := by rw [hc1 _ _ (by simp <;> omega)]; simp [go_sem]
          have c5 : w1.cell? ⟨w.heap.size, 5, none⟩ = some (.int .i64 wt) := by rw [hc1 _ _ (by simp <;> omega)]; simp [go_sem]
          have hb0 : Below w.heap.size w w1 := by first | exact Ext.trans (Ext.alloc_ _ _) hb1 | exact Ext.trans (Ext.trans (Ext.alloc_ _ _) (Ext.alloc_ _ _)) hb1 | exact Ext.trans (Ext.trans (Ext.trans (Ext.alloc_ _ _) (Ext.alloc_ _ _)) (Ext.alloc_ _ _)) hb1
          clear hb1
          go_wp2_with fail
          exact bodyPost_ret (v := .agg #[.int .i64 a, .int .i64 m, .int .i64 x, .int .i64 b, .int .i64 wd, .int .i64 (wt - 1), .int .i64 il, .int .i64 rt, .int .i64 dr]) (by simp [results, Try.results17, go_sem, *]) rfl ⟨rfl, by repeat (first | (with_reducible exact Below.refl _ _) | (with_reducible assumption) | (with_reducible refine Below.alloc ?_ (by simp <;> omega) _) | (with_reducible refine Below.setCell ?_ (by simp <;> omega) _) | (with_reducible refine Below.drew ?_))⟩
        · have h3' : decide (0 < wt) = false := by simpa using h3
          have e2 : tkW (bkB a m x b wd wt il rt dr) false a il wt = wt := by simp [tkW, h3]
          rw [e1, e2]
          clear e1 e2
          go_enter Try.func17, Try.ntmps17
          go_wp2_with fail
          refine (iBkOk _ _ _ _ _ _ _ _ _ _).mono ?_
          rintro e w1 ⟨rfl, hb1⟩
          obtain ⟨hc1, hf1⟩ := bcell (hb1)
          have hz1 : w.heap.size < w1.heap.size := by have := hb1.size; simp at this; omega
          have c6 : w1.cell? ⟨w.heap.size, 6, none⟩ = some (.int .i64 il) := by rw [hc1 _ _ (by simp <;> omega)]; simp [go_sem]
          have c5 : w1.cell? ⟨w.heap.size, 5, none⟩ = some (.int .i64 wt) := by rw [hc1 _ _ (by simp <;> omega)]; simp [go_sem]
          have hb0 : Below w.heap.size w w1 := by first | exact Ext.trans (Ext.alloc_ _ _) hb1 | exact Ext.trans (Ext.trans (Ext.alloc_ _ _) (Ext.alloc_ _ _)) hb1 | exact Ext.trans (Ext.trans (Ext.trans (Ext.alloc_ _ _) (Ext.alloc_ _ _)) (Ext.alloc_ _ _)) hb1
          clear hb1
          go_wp2_with fail
          exact bodyPost_ret (v := .agg #[.int .i64 a, .int .i64 m, .int .i64 x, .int .i64 b, .int .i64 wd, .int .i64 wt, .int .i64 il, .int .i64 rt, .int .i64 dr]) (by simp [results, Try.results17, go_sem, *]) rfl ⟨rfl, by repeat (first | (with_reducible exact Below.refl _ _) | (with_reducible assumption) | (with_reducible refine Below.alloc ?_ (by simp <;> omega) _) | (with_reducible refine Below.setCell ?_ (by simp <;> omega) _) | (with_reducible refine Below.drew ?_))⟩
  · have h1' : bkB a m x b wd wt il rt dr = false := by simpa using h1
    have e1 : tkI (bkB a m x b wd wt il rt dr) bz a il = il := by simp [tkI, h1']
    have e2 : tkW (bkB a m x b wd wt il rt dr) bz a il wt = wt := by simp [tkW, h1']
    rw [e1, e2]
    clear e1 e2 h1
    go_enter Try.func17, Try.ntmps17
    go_wp2_with fail
    refine (iBkOk _ _ _ _ _ _ _ _ _ _).mono ?_
    rintro e w1 ⟨rfl, hb1⟩
    obtain ⟨hc1, hf1⟩ := bcell (hb1)
    have hz1 : w.heap.size < w1.heap.size := by have := hb1.size; simp at this; omega
    have c6 : w1.cell? ⟨w.heap.size, 6, none⟩ = some (.int .i64 il) := by rw [hc1 _ _ (by simp <;> omega)]; simp [go_sem]
    have c5 : w1.cell? ⟨w.heap.size, 5, none⟩ = some (.int .i64 wt) := by rw [hc1 _ _ (by simp <;> omega)]; simp [go_sem]
    have hb0 : Below w.heap.size w w1 := by first | exact Ext.trans (Ext.alloc_ _ _) hb1 | exact Ext.trans (Ext.trans (Ext.alloc_ _ _) (Ext.alloc_ _ _)) hb1 | exact Ext.trans (Ext.trans (Ext.trans (Ext.alloc_ _ _) (Ext.alloc_ _ _)) (Ext.alloc_ _ _)) hb1
    clear hb1
    go_wp2_with fail
    exact bodyPost_ret (v := .agg #[.int .i64 a, .int .i64 m, .int .i64 x, .int .i64 b, .int .i64 wd, .int .i64 wt, .int .i64 il, .int .i64 rt, .int .i64 dr]) (by simp [results, Try.results17, go_sem, *]) rfl ⟨rfl, by repeat (first | (with_reducible exact Below.refl _ _) | (with_reducible assumption) | (with_reducible refine Below.alloc ?_ (by simp <;> omega) _) | (with_reducible refine Below.setCell ?_ (by simp <;> omega) _) | (with_reducible refine Below.drew ?_))⟩
end Go.Proofs.Ytkmklafjcjkpdaa
