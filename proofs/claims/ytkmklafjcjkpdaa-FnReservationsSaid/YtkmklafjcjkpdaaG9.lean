/- Contracts and walks: new backoffs, successes, failures. -/
import Derived.Test.YtkmklafjcjkpdaaG8
namespace Go.Proofs.Ytkmklafjcjkpdaa
open Go.RowKit
set_option linter.unusedVariables false
set_option linter.unusedSimpArgs false
/-- the wait of a new backoff -/
def nbW (c s : Int) : Int := if inB c 0 3 then rwV s 0 (pfM c) else 0
def nbD (c : Int) : Int := if inB c 0 3 then 1 else 0
theorem pf_out {c : Int} (h : inB c 0 3 = false) : pfA c = 0 ∧ pfM c = 0 ∧ pfX c = 0 ∧ pfB c = 0 ∧ nbD c = 0 := by
  have hb := inB_false h
  have h0 : ¬ (c = 0 ∨ c = 1 ∨ c = 2 ∨ c = 3) := by omega
  simp only [pfA, pfM, pfX, pfB, pfV_out h0, nbD, h]
  simp
theorem pfA_pos {c : Int} (h : inB c 0 3 = true) : 2 ≤ pfA c := by
  have hb := inB_true h
  have hc : c = 0 ∨ c = 1 ∨ c = 2 ∨ c = 3 := by omega
  rcases hc with rfl | rfl | rfl | rfl <;> decide
theorem iStart (a m x b s : Int) (w : World) : Calls Try.prog 98 #[.agg #[.int .i64 a, .int .i64 m, .int .i64 x, .int .i64 b], .int .i64 s] w
    fun e w' => e = .returned (.agg #[.int .i64 a, .int .i64 m, .int .i64 x, .int .i64 b, .int .i64 m, .int .i64 (rwV s 0 m), .int .i64 0, .int .i64 0, .int .i64 1]) ∧ Below w.heap.size w w' := by
  go_enter Try.func98, Try.ntmps98
  go_wp2_with fail
  refine wp_region_chain 8 (by kernel_rfl) (by kernel_rfl) ?_
  simp only [List.take_succ_cons, List.take_zero, List.drop_succ_cons, List.drop_zero]
  (apply Chain.quiet; · (intro vs w1 hE hd; obtain ⟨hc, hf⟩ := bcell hE; clear hE hd; (try simp only [Act.put, SP.pick, SP.is, SP.box, id_eq, List.take_succ_cons, List.take_zero, List.drop_succ_cons, List.drop_zero, List.setIfInBounds_toArray, List.set_cons_zero, List.set_cons_succ]); refine growOp_go ?_; go_simp; exact ⟨Ext.refl _, rfl⟩))
  (apply Chain.quiet; · (intro vs w1 hE hd; obtain ⟨hc, hf⟩ := bcell hE; clear hE hd; (try simp only [Act.put, SP.pick, SP.is, SP.box, id_eq, List.take_succ_cons, List.take_zero, List.drop_succ_cons, List.drop_zero, List.setIfInBounds_toArray, List.set_cons_zero, List.set_cons_succ]); refine growOp_go ?_; go_simp; exact ⟨Ext.refl _, rfl⟩))
  (apply Chain.quiet; · (intro vs w1 hE hd; obtain ⟨hc, hf⟩ := bcell hE; clear hE hd; (try simp only [Act.put, SP.pick, SP.is, SP.box, id_eq, List.take_succ_cons, List.take_zero, List.drop_succ_cons, List.drop_zero, List.setIfInBounds_toArray, List.set_cons_zero, List.set_cons_succ]); refine growOp_go ?_; go_simp; exact ⟨Ext.refl _, rfl⟩))
  (apply Chain.quiet; · (intro vs w1 hE hd; obtain ⟨hc, hf⟩ := bcell hE; clear hE hd; (try simp only [Act.put, SP.pick, SP.is, SP.box, id_eq, List.take_succ_cons, List.take_zero, List.drop_succ_cons, List.drop_zero, List.setIfInBounds_toArray, List.set_cons_zero, List.set_cons_succ]); refine growOp_go ?_; go_simp; exact ⟨Ext.refl _, rfl⟩))
  (apply Chain.quiet; · (intro vs w1 hE hd; obtain ⟨hc, hf⟩ := bcell hE; clear hE hd; (try simp only [Act.put, SP.pick, SP.is, SP.box, id_eq, List.take_succ_cons, List.take_zero, List.drop_succ_cons, List.drop_zero, List.setIfInBounds_toArray, List.set_cons_zero, List.set_cons_succ]); refine growOp_go ?_; go_simp; exact ⟨Ext.refl _, rfl⟩))
  (apply Chain.quiet; · (intro vs w1 hE hd; obtain ⟨hc, hf⟩ := bcell hE; clear hE hd; (try simp only [Act.put, SP.pick, SP.is, SP.box, id_eq, List.take_succ_cons, List.take_zero, List.drop_succ_cons, List.drop_zero, List.setIfInBounds_toArray, List.set_cons_zero, List.set_cons_succ]); refine growOp_go ?_; go_simp; exact ⟨Ext.refl _, rfl⟩))
  (apply Chain.quiet; · (intro vs w1 hE hd; obtain ⟨hc, hf⟩ := bcell hE; clear hE hd; (try simp only [Act.put, SP.pick, SP.is, SP.box, id_eq, List.take_succ_cons, List.take_zero, List.drop_succ_cons, List.drop_zero, List.setIfInBounds_toArray, List.set_cons_zero, List.set_cons_succ]); refine growOp_go ?_; go_simp; refine (iRw _ _ _ _).mono ?_; rintro e w2 ⟨rfl, hb⟩; first | exact ⟨rfl, hb⟩ | exact ⟨_, rfl, hb, rfl⟩))
  (apply Chain.quiet; · (intro vs w1 hE hd; obtain ⟨hc, hf⟩ := bcell hE; clear hE hd; (try simp only [Act.put, SP.pick, SP.is, SP.box, id_eq, List.take_succ_cons, List.take_zero, List.drop_succ_cons, List.drop_zero, List.setIfInBounds_toArray, List.set_cons_zero, List.set_cons_succ]); refine growOp_go ?_; go_simp; exact ⟨Ext.refl _, rfl⟩))
  refine Chain.done ?_
  intro vs w3 hE3 hd3
  simp only [Act.put, SP.pick, SP.is, SP.box, id_eq, List.take_succ_cons, List.take_zero, List.drop_succ_cons, List.drop_zero, List.setIfInBounds_toArray, List.set_cons_zero, List.set_cons_succ]
  obtain ⟨hc3, hf3⟩ := bcell hE3
  have hz3 : w.heap.size + 1 < w3.heap.size := by have := hE3.size; simp at this; omega
  have hb0 : Below w.heap.size w w3 := Ext.trans (Ext.trans (Ext.alloc_ _ _) (Ext.alloc_ _ _)) hE3
  clear hE3 hd3
  go_wp2_with fail
  exact bodyPost_ret (v := .agg #[.int .i64 a, .int .i64 m, .int .i64 x, .int .i64 b, .int .i64 m, .int .i64 (rwV s 0 m), .int .i64 0, .int .i64 0, .int .i64 1]) (by simp [results, Try.results98, go_sem, *]) rfl ⟨rfl, by repeat (first | (with_reducible exact Below.refl _ _) | (with_reducible assumption) | (with_reducible refine Below.alloc ?_ (by simp <;> omega) _) | (with_reducible refine Below.setCell ?_ (by simp <;> omega) _) | (with_reducible refine Below.drew ?_))⟩
theorem iNewBk (c s : Int) (w : World) : Calls Try.prog 25 #[.int .i64 c, .int .i64 s] w
    fun e w' => e = .returned (.agg #[.int .i64 (pfA c), .int .i64 (pfM c), .int .i64 (pfX c), .int .i64 (pfB c), .int .i64 (pfM c), .int .i64 (nbW c s), .int .i64 0, .int .i64 0, .int .i64 (nbD c)]) ∧ Below w.heap.size w w' := by
  by_cases h : inB c 0 3 = true
  · have e1 : nbW c s = rwV s 0 (pfM c) := by simp [nbW, h]
    have e2 : nbD c = 1 := by simp [nbD, h]
    rw [e1, e2]
    clear e1 e2
    go_enter Try.func25, Try.ntmps25
    go_wp2_with (go_at_call 97; refine (iCat _ _).mono ?_; rintro e w' ⟨rfl, rfl⟩)
    refine (iFor _ _).mono ?_
    rintro e w1 ⟨rfl, hb1⟩
    go_wp2_with fail
    refine (iStart _ _ _ _ _ _).mono ?_
    rintro e w2 ⟨rfl, hb2⟩
    have hb := Ext.trans hb1 hb2
    obtain ⟨hc2, hf2⟩ := bcell hb
    have hz2 : w.heap.size < w2.heap.size := Ext.lt_alloc hb
    have hb0 : Below w.heap.size w w2 := Ext.trans (Ext.alloc_ _ _) hb
    clear hb1 hb2 hb h
    go_wp2_with fail
    exact bodyPost_ret (v := .agg #[.int .i64 (pfA c), .int .i64 (pfM c), .int .i64 (pfX c), .int .i64 (pfB c), .int .i64 (pfM c), .int .i64 (rwV s 0 (pfM c)), .int .i64 0, .int .i64 0, .int .i64 1]) (by simp [results, Try.results25, go_sem, *]) rfl ⟨rfl, by repeat (first | (with_reducible exact Below.refl _ _) | (with_reducible assumption) | (with_reducible refine Below.alloc ?_ (by simp <;> omega) _) | (with_reducible refine Below.setCell ?_ (by simp <;> omega) _) | (with_reducible refine Below.drew ?_))⟩
  · have h' : inB c 0 3 = false := by simpa using h
    obtain ⟨e1, e2, e3, e4, e5⟩ := pf_out h'
    have e6 : nbW c s = 0 := by simp [nbW, h']
    rw [e1, e2, e3, e4, e5, e6]
    clear e1 e2 e3 e4 e5 e6 h
    go_enter Try.func25, Try.ntmps25
    go_wp2_with (go_at_call 97; refine (iCat _ _).mono ?_; rintro e w' ⟨rfl, rfl⟩)
    exact bodyPost_ret (v := .agg #[.int .i64 0, .int .i64 0, .int .i64 0, .int .i64 0, .int .i64 0, .int .i64 0, .int .i64 0, .int .i64 0, .int .i64 0]) (by simp [results, Try.results25, go_sem, *]) rfl ⟨rfl, by repeat (first | (with_reducible exact Below.refl _ _) | (with_reducible assumption) | (with_reducible refine Below.alloc ?_ (by simp <;> omega) _) | (with_reducible refine Below.setCell ?_ (by simp <;> omega) _) | (with_reducible refine Below.drew ?_))⟩
theorem sNewBk (c s : Int) (w : World) : Calls Try.prog 153 #[.int .i64 c, .int .i64 s] w
    fun e w' => e = .returned (.agg #[.int .i64 (pfA c), .int .i64 (pfM c), .int .i64 (pfX c), .int .i64 (pfB c), .int .i64 (pfM c), .int .i64 (nbW c s), .int .i64 0, .int .i64 0, .int .i64 (nbD c)]) ∧ Below w.heap.size w w' := by
  by_cases h : inB c 0 3 = true
  · have e1 : nbW c s = rwV s 0 (pfM c) := by simp [nbW, h]
    have e2 : nbD c = 1 := by simp [nbD, h]
    have hp := pfA_pos h
    have k0 : (pfA c == 0) = false := by simp; omega
    rw [e1, e2]
    clear e1 e2 hp
    go_enter Try.func153, Try.ntmps153
    go_wp2_with fail
    refine (sFor _ _).mono ?_
    rintro e w1 ⟨rfl, hb1⟩
    obtain ⟨hc1, hf1⟩ := bcell hb1
    have hz1 : w.heap.size < w1.heap.size := Ext.lt_alloc hb1
    go_wp2_with fail
    refine wp_region_chain 8 (by kernel_rfl) (by kernel_rfl) ?_
    simp only [List.take_succ_cons, List.take_zero, List.drop_succ_cons, List.drop_zero]
    (apply Chain.quiet; · (intro vs w1 hE hd; obtain ⟨hc, hf⟩ := bcell hE; clear hE hd; (try simp only [Act.put, SP.pick, SP.is, SP.box, id_eq, List.take_succ_cons, List.take_zero, List.drop_succ_cons, List.drop_zero, List.setIfInBounds_toArray, List.set_cons_zero, List.set_cons_succ]); refine growOp_go ?_; go_simp; exact ⟨Ext.refl _, rfl⟩))
    (apply Chain.quiet; · (intro vs w1 hE hd; obtain ⟨hc, hf⟩ := bcell hE; clear hE hd; (try simp only [Act.put, SP.pick, SP.is, SP.box, id_eq, List.take_succ_cons, List.take_zero, List.drop_succ_cons, List.drop_zero, List.setIfInBounds_toArray, List.set_cons_zero, List.set_cons_succ]); refine growOp_go ?_; go_simp; exact ⟨Ext.refl _, rfl⟩))
    (apply Chain.quiet; · (intro vs w1 hE hd; obtain ⟨hc, hf⟩ := bcell hE; clear hE hd; (try simp only [Act.put, SP.pick, SP.is, SP.box, id_eq, List.take_succ_cons, List.take_zero, List.drop_succ_cons, List.drop_zero, List.setIfInBounds_toArray, List.set_cons_zero, List.set_cons_succ]); refine growOp_go ?_; go_simp; exact ⟨Ext.refl _, rfl⟩))
    (apply Chain.quiet; · (intro vs w1 hE hd; obtain ⟨hc, hf⟩ := bcell hE; clear hE hd; (try simp only [Act.put, SP.pick, SP.is, SP.box, id_eq, List.take_succ_cons, List.take_zero, List.drop_succ_cons, List.drop_zero, List.setIfInBounds_toArray, List.set_cons_zero, List.set_cons_succ]); refine growOp_go ?_; go_simp; exact ⟨Ext.refl _, rfl⟩))
    (apply Chain.quiet; · (intro vs w1 hE hd; obtain ⟨hc, hf⟩ := bcell hE; clear hE hd; (try simp only [Act.put, SP.pick, SP.is, SP.box, id_eq, List.take_succ_cons, List.take_zero, List.drop_succ_cons, List.drop_zero, List.setIfInBounds_toArray, List.set_cons_zero, List.set_cons_succ]); refine growOp_go ?_; go_simp; exact ⟨Ext.refl _, rfl⟩))
    (apply Chain.quiet; · (intro vs w1 hE hd; obtain ⟨hc, hf⟩ := bcell hE; clear hE hd; (try simp only [Act.put, SP.pick, SP.is, SP.box, id_eq, List.take_succ_cons, List.take_zero, List.drop_succ_cons, List.drop_zero, List.setIfInBounds_toArray, List.set_cons_zero, List.set_cons_succ]); refine growOp_go ?_; go_simp; exact ⟨Ext.refl _, rfl⟩))
    (apply Chain.quiet; · (intro vs w1 hE hd; obtain ⟨hc, hf⟩ := bcell hE; clear hE hd; (try simp only [Act.put, SP.pick, SP.is, SP.box, id_eq, List.take_succ_cons, List.take_zero, List.drop_succ_cons, List.drop_zero, List.setIfInBounds_toArray, List.set_cons_zero, List.set_cons_succ]); refine growOp_go ?_; go_simp; refine (sRw _ _ _ _).mono ?_; rintro e w2 ⟨rfl, hb⟩; first | exact ⟨rfl, hb⟩ | exact ⟨_, rfl, hb, rfl⟩))
    (apply Chain.quiet; · (intro vs w1 hE hd; obtain ⟨hc, hf⟩ := bcell hE; clear hE hd; (try simp only [Act.put, SP.pick, SP.is, SP.box, id_eq, List.take_succ_cons, List.take_zero, List.drop_succ_cons, List.drop_zero, List.setIfInBounds_toArray, List.set_cons_zero, List.set_cons_succ]); refine growOp_go ?_; go_simp; exact ⟨Ext.refl _, rfl⟩))
    refine Chain.done ?_
    intro vs w3 hE3 hd3
    simp only [Act.put, SP.pick, SP.is, SP.box, id_eq, List.take_succ_cons, List.take_zero, List.drop_succ_cons, List.drop_zero, List.setIfInBounds_toArray, List.set_cons_zero, List.set_cons_succ]
    have hE4 := Ext.trans (Ext.trans hb1 (Ext.alloc_ _ _)) hE3
    obtain ⟨hc3, hf3⟩ := bcell hE4
    have hz3 : w.heap.size < w3.heap.size := Ext.lt_alloc hE4
    have hb0 : Below w.heap.size w w3 := Ext.trans (Ext.alloc_ _ _) hE4
    clear hE3 hE4 hd3 hb1 hc1 hf1 h
    go_wp2_with fail
    exact bodyPost_ret (v := .agg #[.int .i64 (pfA c), .int .i64 (pfM c), .int .i64 (pfX c), .int .i64 (pfB c), .int .i64 (pfM c), .int .i64 (rwV s 0 (pfM c)), .int .i64 0, .int .i64 0, .int .i64 1]) (by simp [results, Try.results153, go_sem, *]) rfl ⟨rfl, by repeat (first | (with_reducible exact Below.refl _ _) | (with_reducible assumption) | (with_reducible refine Below.alloc ?_ (by simp <;> omega) _) | (with_reducible refine Below.setCell ?_ (by simp <;> omega) _) | (with_reducible refine Below.drew ?_))⟩
  · have h' : inB c 0 3 = false := by simpa using h
    obtain ⟨e1, e2, e3, e4, e5⟩ := pf_out h'
    have e6 : nbW c s = 0 := by simp [nbW, h']
    have k0 : (pfA c == 0) = true := by simp [e1]
    rw [e1, e2, e3, e4, e5, e6]
    clear e1 e2 e3 e4 e5 e6 h
    go_enter Try.func153, Try.ntmps153
    go_wp2_with fail
    refine (sFor _ _).mono ?_
    rintro e w1 ⟨rfl, hb1⟩
    obtain ⟨hc1, hf1⟩ := bcell hb1
    have hz1 : w.heap.size < w1.heap.size := Ext.lt_alloc hb1
    have hb0 : Below w.heap.size w w1 := Ext.trans (Ext.alloc_ _ _) hb1
    clear hb1
    go_wp2_with fail
    exact bodyPost_ret (v := .agg #[.int .i64 0, .int .i64 0, .int .i64 0, .int .i64 0, .int .i64 0, .int .i64 0, .int .i64 0, .int .i64 0, .int .i64 0]) (by simp [results, Try.results153, go_sem, *]) rfl ⟨rfl, by repeat (first | (with_reducible exact Below.refl _ _) | (with_reducible assumption) | (with_reducible refine Below.alloc ?_ (by simp <;> omega) _) | (with_reducible refine Below.setCell ?_ (by simp <;> omega) _) | (with_reducible refine Below.drew ?_))⟩
def drV (d : Int) : Int := min (d + 1) 1000000000000
theorem drV_spec {d : Int} : min 999999999999 d + 1 = drV d := by unfold drV; omega
theorem iDraw (a m x b wd wt il rt dr : Int) (s : Int) (hd : 0 ≤ dr ∧ dr ≤ 1000000000000) (w : World) : Calls Try.prog 99 #[.agg #[.int .i64 a, .int .i64 m, .int .i64 x, .int .i64 b, .int .i64 wd, .int .i64 wt, .int .i64 il, .int .i64 rt, .int .i64 dr], .int .i64 s] w
    fun e w' => e = .returned (.agg #[.int .i64 a, .int .i64 m, .int .i64 x, .int .i64 b, .int .i64 wd, .int .i64 (rwV s dr wd), .int .i64 0, .int .i64 rt, .int .i64 (drV dr)]) ∧ Below w.heap.size w w' := by
  unfold drV
  go_enter Try.func99, Try.ntmps99
  go_wp2_with fail
  refine (iRw _ _ _ _).mono ?_
  rintro e w1 ⟨rfl, hb1⟩
  obtain ⟨hc1, hf1⟩ := bcell (hb1)
  have hz1 : w.heap.size + 1 < w1.heap.size := by have := hb1.size; simp at this; omega
  have c5 : w1.cell? ⟨w.heap.size, 5, none⟩ = some (.int .i64 wt) := by rw [hc1 _ _ (by simp <;> omega)]; simp [go_sem]
  have c6 : w1.cell? ⟨w.heap.size, 6, none⟩ = some (.int .i64 il) := by rw [hc1 _ _ (by simp <;> omega)]; simp [go_sem]
  have c8 : w1.cell? ⟨w.heap.size, 8, none⟩ = some (.int .i64 dr) := by rw [hc1 _ _ (by simp <;> omega)]; simp [go_sem]
  have hb0 : Below w.heap.size w w1 := Ext.trans (Ext.trans (Ext.alloc_ _ _) (Ext.alloc_ _ _)) hb1
  clear hb1
  go_wp2_with (go_at_call 100; refine (iMin _ _ _).mono ?_; rintro e w' ⟨rfl, rfl⟩)
  exact bodyPost_ret (v := .agg #[.int .i64 a, .int .i64 m, .int .i64 x, .int .i64 b, .int .i64 wd, .int .i64 (rwV s dr wd), .int .i64 0, .int .i64 rt, .int .i64 (min (dr + 1) 1000000000000)]) (by simp [results, Try.results99, go_sem, *]) rfl ⟨rfl, by repeat (first | (with_reducible exact Below.refl _ _) | (with_reducible assumption) | (with_reducible refine Below.alloc ?_ (by simp <;> omega) _) | (with_reducible refine Below.setCell ?_ (by simp <;> omega) _) | (with_reducible refine Below.drew ?_))⟩
theorem sDraw (a m x b wd wt il rt dr : Int) (s wd' rt' : Int) (hd : 0 ≤ dr ∧ dr ≤ 1000000000000) (w : World) : Calls Try.prog 163 #[.agg #[.int .i64 a, .int .i64 m, .int .i64 x, .int .i64 b, .int .i64 wd, .int .i64 wt, .int .i64 il, .int .i64 rt, .int .i64 dr], .int .i64 s, .int .i64 wd', .int .i64 rt'] w
    fun e w' => e = .returned (.agg #[.int .i64 a, .int .i64 m, .int .i64 x, .int .i64 b, .int .i64 wd', .int .i64 (rwV s dr wd'), .int .i64 0, .int .i64 rt', .int .i64 (drV dr)]) ∧ Below w.heap.size w w' := by
  rw [← drV_spec]
  go_enter Try.func163, Try.ntmps163
  go_wp2_with fail
  refine (sRw _ _ _ _).mono ?_
  rintro e w1 ⟨rfl, hb1⟩
  obtain ⟨hc1, hf1⟩ := bcell (hb1)
  have hz1 : w.heap.size + 2 < w1.heap.size := by have := hb1.size; simp at this; omega
  have c5 : w1.cell? ⟨w.heap.size + 1 + 1, 5, none⟩ = some (.int .i64 wt) := by rw [hc1 _ _ (by simp <;> omega)]; simp [go_sem]
  have c6 : w1.cell? ⟨w.heap.size + 1 + 1, 6, none⟩ = some (.int .i64 il) := by rw [hc1 _ _ (by simp <;> omega)]; simp [go_sem]
  have c8 : w1.cell? ⟨w.heap.size + 1 + 1, 8, none⟩ = some (.int .i64 dr) := by rw [hc1 _ _ (by simp <;> omega)]; simp [go_sem]
  have hb0 : Below w.heap.size w w1 := Ext.trans (Ext.trans (Ext.trans (Ext.alloc_ _ _) (Ext.alloc_ _ _)) (Ext.alloc_ _ _)) hb1
  clear hb1
  go_wp2_with (go_at_call 123; refine (sMin _ _ _).mono ?_; rintro e w' ⟨rfl, rfl⟩)
  exact bodyPost_ret (v := .agg #[.int .i64 a, .int .i64 m, .int .i64 x, .int .i64 b, .int .i64 wd', .int .i64 (rwV s dr wd'), .int .i64 0, .int .i64 rt', .int .i64 (min 999999999999 dr + 1)]) (by simp [results, Try.results163, go_sem, *]) rfl ⟨rfl, by repeat (first | (with_reducible exact Below.refl _ _) | (with_reducible assumption) | (with_reducible refine Below.alloc ?_ (by simp <;> omega) _) | (with_reducible refine Below.setCell ?_ (by simp <;> omega) _) | (with_reducible refine Below.drew ?_))⟩
end Go.Proofs.Ytkmklafjcjkpdaa
