/- Contracts and walks: successes and failures of backoffs. -/
import Derived.Test.YtkmklafjcjkpdaaG9
import Derived.Test.YtkmklafjcjkpdaaBlk
namespace Go.Proofs.Ytkmklafjcjkpdaa
open Go.RowKit
set_option linter.unusedVariables false
set_option linter.unusedSimpArgs false
/-- one of two numbers -/
def sel (c : Bool) (x y : Int) : Int := if c then x else y
theorem sel_t (x y : Int) : sel true x y = x := rfl
theorem sel_f (x y : Int) : sel false x y = y := rfl
theorem iSuc (a m x b wd wt il rt dr : Int) (s : Int) (ok : Bool) (hok : bkB a m x b wd wt il rt dr = ok) (w : World) : Calls Try.prog 28 #[.agg #[.int .i64 a, .int .i64 m, .int .i64 x, .int .i64 b, .int .i64 wd, .int .i64 wt, .int .i64 il, .int .i64 rt, .int .i64 dr], .int .i64 s] w
    fun e w' => e = .returned (.agg #[.int .i64 a, .int .i64 m, .int .i64 x, .int .i64 b, .int .i64 (sel ok m wd), .int .i64 (sel ok (rwV s dr m) wt), .int .i64 (sel ok 0 il), .int .i64 (sel ok 0 rt), .int .i64 (sel ok (drV dr) dr)]) ∧ Below w.heap.size w w' := by
  cases ok with
  | true =>
    obtain ⟨a1, a2, m1, m2, d1, d2, t1, t2, i1, i2, r1, r2, g1, g2⟩ := bk_bd hok
    simp only [sel_t]
    go_enter Try.func28, Try.ntmps28
    go_wp2_with fail
    refine (iBkOk _ _ _ _ _ _ _ _ _ _).mono ?_
    rintro e w1 ⟨rfl, hb1⟩
    obtain ⟨hc1, hf1⟩ := bcell (hb1)
    have hz1 : w.heap.size + 1 < w1.heap.size := by have := hb1.size; simp at this; omega
    have c4 : w1.cell? ⟨w.heap.size, 4, none⟩ = some (.int .i64 wd) := by rw [hc1 _ _ (by simp <;> omega)]; simp [go_sem]
    have c7 : w1.cell? ⟨w.heap.size, 7, none⟩ = some (.int .i64 rt) := by rw [hc1 _ _ (by simp <;> omega)]; simp [go_sem]
    go_wp2_with fail
    refine (iDraw _ _ _ _ _ _ _ _ _ _ ⟨g1, g2⟩ _).mono ?_
    rintro e w2 ⟨rfl, hb2⟩
    have hz2 : w1.heap.size ≤ w2.heap.size := by have := hb2.size; simpa [World.setCell] using this
    have hb0 : Below w.heap.size w w2 := by
      refine Below.trans ?_ (Below.mono hb2 (by simp [World.setCell]; omega))
      have hb3 : Below w.heap.size w w1 := Ext.trans (Ext.trans (Ext.alloc_ _ _) (Ext.alloc_ _ _)) hb1
      repeat (first | (with_reducible exact Below.refl _ _) | (with_reducible assumption) | (with_reducible refine Below.alloc ?_ (by simp <;> omega) _) | (with_reducible refine Below.setCell ?_ (by simp <;> omega) _) | (with_reducible refine Below.drew ?_))
    have hR := ext_blk hb2 (set_blk (p := ⟨w.heap.size, 7, none⟩) (u := .int .i64 0) (set_blk (p := ⟨w.heap.size, 4, none⟩) (u := .int .i64 m) (ext_blk hb1 (new_blk2 w _ _ _)) (by simp)) (by simp))
    obtain ⟨hr1, hr2, hr3⟩ := blk_cells hR
    clear hc1 hf1 c4 c7 hb1 hb2 hR hok
    go_wp2_with fail
    exact bodyPost_ret (v := .agg #[.int .i64 a, .int .i64 m, .int .i64 x, .int .i64 b, .int .i64 m, .int .i64 (rwV s dr m), .int .i64 0, .int .i64 0, .int .i64 (drV dr)]) (by simp [results, Try.results28, go_sem, *]) rfl ⟨rfl, by repeat (first | (with_reducible exact Below.refl _ _) | (with_reducible assumption) | (with_reducible refine Below.alloc ?_ (by simp <;> omega) _) | (with_reducible refine Below.setCell ?_ (by simp <;> omega) _) | (with_reducible refine Below.drew ?_))⟩
  | false =>
    simp only [sel_f]
    go_enter Try.func28, Try.ntmps28
    go_wp2_with fail
    refine (iBkOk _ _ _ _ _ _ _ _ _ _).mono ?_
    rintro e w1 ⟨rfl, hb1⟩
    obtain ⟨hc1, hf1⟩ := bcell (hb1)
    have hz1 : w.heap.size + 1 < w1.heap.size := by have := hb1.size; simp at this; omega
    have hb0 : Below w.heap.size w w1 := by first | exact Ext.trans (Ext.alloc_ _ _) hb1 | exact Ext.trans (Ext.trans (Ext.alloc_ _ _) (Ext.alloc_ _ _)) hb1 | exact Ext.trans (Ext.trans (Ext.trans (Ext.alloc_ _ _) (Ext.alloc_ _ _)) (Ext.alloc_ _ _)) hb1
    clear hb1
    go_wp2_with fail
    exact bodyPost_ret (v := .agg #[.int .i64 a, .int .i64 m, .int .i64 x, .int .i64 b, .int .i64 wd, .int .i64 wt, .int .i64 il, .int .i64 rt, .int .i64 dr]) (by simp [results, Try.results28, go_sem, *]) rfl ⟨rfl, by repeat (first | (with_reducible exact Below.refl _ _) | (with_reducible assumption) | (with_reducible refine Below.alloc ?_ (by simp <;> omega) _) | (with_reducible refine Below.setCell ?_ (by simp <;> omega) _) | (with_reducible refine Below.drew ?_))⟩
theorem sSuc (a m x b wd wt il rt dr : Int) (s : Int) (ok : Bool) (hok : bkB a m x b wd wt il rt dr = ok) (w : World) : Calls Try.prog 157 #[.agg #[.int .i64 a, .int .i64 m, .int .i64 x, .int .i64 b, .int .i64 wd, .int .i64 wt, .int .i64 il, .int .i64 rt, .int .i64 dr], .int .i64 s] w
    fun e w' => e = .returned (.agg #[.int .i64 a, .int .i64 m, .int .i64 x, .int .i64 b, .int .i64 (sel ok m wd), .int .i64 (sel ok (rwV s dr m) wt), .int .i64 (sel ok 0 il), .int .i64 (sel ok 0 rt), .int .i64 (sel ok (drV dr) dr)]) ∧ Below w.heap.size w w' := by
  cases ok with
  | true =>
    obtain ⟨a1, a2, m1, m2, d1, d2, t1, t2, i1, i2, r1, r2, g1, g2⟩ := bk_bd hok
    simp only [sel_t]
    go_enter Try.func157, Try.ntmps157
    go_wp2_with fail
    refine (sBkOk _ _ _ _ _ _ _ _ _ _).mono ?_
    rintro e w1 ⟨rfl, hb1⟩
    obtain ⟨hc1, hf1⟩ := bcell (hb1)
    have hz1 : w.heap.size + 1 < w1.heap.size := by have := hb1.size; simp at this; omega
    go_wp2_with fail
    refine (sDraw _ _ _ _ _ _ _ _ _ _ _ _ ⟨g1, g2⟩ _).mono ?_
    rintro e w2 ⟨rfl, hb2⟩
    have hz2 := hb2.size
    have hb0 : Below w.heap.size w w2 := Ext.trans (Ext.trans (Ext.trans (Ext.alloc_ _ _) (Ext.alloc_ _ _)) hb1) hb2
    have hR := ext_blk hb2 (ext_blk hb1 (new_blk2 w _ _ _))
    obtain ⟨hr1, hr2, hr3⟩ := blk_cells hR
    clear hc1 hf1 hb1 hb2 hR hok
    go_wp2_with fail
    exact bodyPost_ret (v := .agg #[.int .i64 a, .int .i64 m, .int .i64 x, .int .i64 b, .int .i64 m, .int .i64 (rwV s dr m), .int .i64 0, .int .i64 0, .int .i64 (drV dr)]) (by simp [results, Try.results157, go_sem, *]) rfl ⟨rfl, by repeat (first | (with_reducible exact Below.refl _ _) | (with_reducible assumption) | (with_reducible refine Below.alloc ?_ (by simp <;> omega) _) | (with_reducible refine Below.setCell ?_ (by simp <;> omega) _) | (with_reducible refine Below.drew ?_))⟩
  | false =>
    simp only [sel_f]
    go_enter Try.func157, Try.ntmps157
    go_wp2_with fail
    refine (sBkOk _ _ _ _ _ _ _ _ _ _).mono ?_
    rintro e w1 ⟨rfl, hb1⟩
    obtain ⟨hc1, hf1⟩ := bcell (hb1)
    have hz1 : w.heap.size + 1 < w1.heap.size := by have := hb1.size; simp at this; omega
    have hb0 : Below w.heap.size w w1 := by first | exact Ext.trans (Ext.alloc_ _ _) hb1 | exact Ext.trans (Ext.trans (Ext.alloc_ _ _) (Ext.alloc_ _ _)) hb1 | exact Ext.trans (Ext.trans (Ext.trans (Ext.alloc_ _ _) (Ext.alloc_ _ _)) (Ext.alloc_ _ _)) hb1
    clear hb1
    go_wp2_with fail
    exact bodyPost_ret (v := .agg #[.int .i64 a, .int .i64 m, .int .i64 x, .int .i64 b, .int .i64 wd, .int .i64 wt, .int .i64 il, .int .i64 rt, .int .i64 dr]) (by simp [results, Try.results157, go_sem, *]) rfl ⟨rfl, by repeat (first | (with_reducible exact Below.refl _ _) | (with_reducible assumption) | (with_reducible refine Below.alloc ?_ (by simp <;> omega) _) | (with_reducible refine Below.setCell ?_ (by simp <;> omega) _) | (with_reducible refine Below.drew ?_))⟩
theorem nextV_bd {a m x b wd : Int} (h : parB a m x b = true) (h1 : 1 ≤ wd ∧ wd ≤ 1023 ∧ m ≤ wd ∧ wd ≤ x) : nextV a m x b wd = min (2 * wd + 1) x := by
  simp [nextV, h, inB_mk h1.2.2.1 h1.2.2.2]
set_option maxHeartbeats 800000 in
theorem sFail (a m x b wd wt il rt dr : Int) (s : Int) (ok la : Bool) (hok : bkB a m x b wd wt il rt dr = ok) (hla : (rt == 7) = la) (w : World) : Calls Try.prog 155 #[.agg #[.int .i64 a, .int .i64 m, .int .i64 x, .int .i64 b, .int .i64 wd, .int .i64 wt, .int .i64 il, .int .i64 rt, .int .i64 dr], .int .i64 s] w
    fun e w' => e = .returned (.tuple #[.agg #[.int .i64 a, .int .i64 m, .int .i64 x, .int .i64 b, .int .i64 (sel ok (sel la m (nextV a m x b wd)) wd), .int .i64 (sel ok (sel la (rwV s dr m) (rwV s dr (nextV a m x b wd))) wt), .int .i64 (sel ok 0 il), .int .i64 (sel ok (sel la 0 (rt + 1)) rt), .int .i64 (sel ok (drV dr) dr)], .bool (ok && !la)]) ∧ Below w.heap.size w w' := by
  cases ok with
  | true =>
    obtain ⟨a1, a2, m1, m2, d1, d2, t1, t2, i1, i2, r1, r2, g1, g2⟩ := bk_bd hok
    cases la with
    | true =>
      have hok' := Lib.hid hok
      clear hok
      simp only [sel_t, Bool.not_true, Bool.and_false]
      go_enter Try.func155, Try.ntmps155
      go_wp2_with fail
      refine (sBkOk _ _ _ _ _ _ _ _ _ _).mono ?_
      rintro e w1 ⟨rfl, hb1⟩
      rw [hok'.out]
      obtain ⟨hc1, hf1⟩ := bcell (hb1)
      have hz1 : w.heap.size + 1 < w1.heap.size := by have := hb1.size; simp at this; omega
      go_wp2_with fail
      refine (sSuc _ _ _ _ _ _ _ _ _ _ _ hok'.out _).mono ?_
      rintro e w2 ⟨rfl, hb2⟩
      have hz2 := hb2.size
      have hb0 : Below w.heap.size w w2 := Ext.trans (Ext.trans (Ext.trans (Ext.alloc_ _ _) (Ext.alloc_ _ _)) hb1) hb2
      have hR := ext_blk hb2 (ext_blk hb1 (new_blk2 w _ _ _))
      obtain ⟨hr1, hr2, hr3⟩ := blk_cells hR
      simp only [sel_t]
      clear hc1 hf1 hb1 hb2 hR
      go_wp2_with fail
      exact bodyPost_ret (v := .tuple #[.agg #[.int .i64 a, .int .i64 m, .int .i64 x, .int .i64 b, .int .i64 m, .int .i64 (rwV s dr m), .int .i64 0, .int .i64 0, .int .i64 (drV dr)], .bool false]) (by simp [results, Try.results155, go_sem, *]) rfl ⟨rfl, by repeat (first | (with_reducible exact Below.refl _ _) | (with_reducible assumption) | (with_reducible refine Below.alloc ?_ (by simp <;> omega) _) | (with_reducible refine Below.setCell ?_ (by simp <;> omega) _) | (with_reducible refine Below.drew ?_))⟩
    | false =>
      have hok' := Lib.hid hok
      clear hok
      simp only [sel_t, sel_f, Bool.not_false, Bool.and_true]
      go_enter Try.func155, Try.ntmps155
      go_wp2_with fail
      refine (sBkOk _ _ _ _ _ _ _ _ _ _).mono ?_
      rintro e w1 ⟨rfl, hb1⟩
      rw [hok'.out]
      obtain ⟨hc1, hf1⟩ := bcell (hb1)
      have hz1 : w.heap.size + 1 < w1.heap.size := by have := hb1.size; simp at this; omega
      have hwr : IntKind.i64.wrap (rt + 1) = rt + 1 := IntWalk.i64_in _ (by omega)
      go_wp2_with fail
      refine wp_region_chain 11 (by kernel_rfl) (by kernel_rfl) ?_
      simp only [List.take_succ_cons, List.take_zero, List.drop_succ_cons, List.drop_zero]
      repeat (apply Chain.quiet; · (intro vs w1 hE hd; obtain ⟨hc, hf⟩ := bcell (Ext.trans hb1 hE); clear hE hd; (try simp only [Act.put, SP.pick, SP.is, SP.box, id_eq, List.take_succ_cons, List.take_zero, List.drop_succ_cons, List.drop_zero, List.setIfInBounds_toArray, List.set_cons_zero, List.set_cons_succ]); refine growOp_go ?_; go_simp; exact ⟨Ext.refl _, rfl⟩))
      (apply Chain.quiet; · (intro vs w1 hE hd; obtain ⟨hc, hf⟩ := bcell (Ext.trans hb1 hE); clear hE hd; (try simp only [Act.put, SP.pick, SP.is, SP.box, id_eq, List.take_succ_cons, List.take_zero, List.drop_succ_cons, List.drop_zero, List.setIfInBounds_toArray, List.set_cons_zero, List.set_cons_succ]); refine growOp_go ?_; go_simp; refine (sNext _ _ _ _ _ _).mono ?_; rintro e w2 ⟨rfl, hb⟩; first | exact ⟨rfl, hb⟩ | exact ⟨_, rfl, hb, rfl⟩))
      repeat (apply Chain.quiet; · (intro vs w1 hE hd; obtain ⟨hc, hf⟩ := bcell (Ext.trans hb1 hE); clear hE hd; (try simp only [Act.put, SP.pick, SP.is, SP.box, id_eq, List.take_succ_cons, List.take_zero, List.drop_succ_cons, List.drop_zero, List.setIfInBounds_toArray, List.set_cons_zero, List.set_cons_succ]); refine growOp_go ?_; go_simp; exact ⟨Ext.refl _, rfl⟩))
      (apply Chain.quiet; · (intro vs w1 hE hd; obtain ⟨hc, hf⟩ := bcell (Ext.trans hb1 hE); clear hE hd; (try simp only [Act.put, SP.pick, SP.is, SP.box, id_eq, List.take_succ_cons, List.take_zero, List.drop_succ_cons, List.drop_zero, List.setIfInBounds_toArray, List.set_cons_zero, List.set_cons_succ]); refine growOp_go ?_; go_simp; refine (sDraw _ _ _ _ _ _ _ _ _ _ _ _ ⟨g1, g2⟩ _).mono ?_; rintro e w2 ⟨rfl, hb⟩; first | exact ⟨rfl, hb⟩ | exact ⟨_, rfl, hb, rfl⟩))
      refine Chain.done ?_
      intro vs w2 hE2 hd2
      simp only [Act.put, SP.pick, SP.is, SP.box, id_eq, List.take_succ_cons, List.take_zero, List.drop_succ_cons, List.drop_zero, List.setIfInBounds_toArray, List.set_cons_zero, List.set_cons_succ]
      have hz2 := hE2.size
      have hb0 : Below w.heap.size w w2 := Ext.trans (Ext.trans (Ext.trans (Ext.alloc_ _ _) (Ext.alloc_ _ _)) hb1) hE2
      have hR := ext_blk hE2 (ext_blk hb1 (new_blk2 w _ _ _))
      obtain ⟨hr1, hr2, hr3⟩ := blk_cells hR
      clear hc1 hf1 hb1 hE2 hd2 hR
      go_wp2_with fail
      exact bodyPost_ret (v := .tuple #[.agg #[.int .i64 a, .int .i64 m, .int .i64 x, .int .i64 b, .int .i64 (nextV a m x b wd), .int .i64 (rwV s dr (nextV a m x b wd)), .int .i64 0, .int .i64 (rt + 1), .int .i64 (drV dr)], .bool true]) (by simp [results, Try.results155, go_sem, *]) rfl ⟨rfl, by repeat (first | (with_reducible exact Below.refl _ _) | (with_reducible assumption) | (with_reducible refine Below.alloc ?_ (by simp <;> omega) _) | (with_reducible refine Below.setCell ?_ (by simp <;> omega) _) | (with_reducible refine Below.drew ?_))⟩
  | false =>
    simp only [sel_f, Bool.false_and]
    go_enter Try.func155, Try.ntmps155
    go_wp2_with fail
    refine (sBkOk _ _ _ _ _ _ _ _ _ _).mono ?_
    rintro e w1 ⟨rfl, hb1⟩
    rw [hok]
    obtain ⟨hc1, hf1⟩ := bcell (hb1)
    have hz1 : w.heap.size + 1 < w1.heap.size := by have := hb1.size; simp at this; omega
    have hb0 : Below w.heap.size w w1 := by first | exact Ext.trans (Ext.alloc_ _ _) hb1 | exact Ext.trans (Ext.trans (Ext.alloc_ _ _) (Ext.alloc_ _ _)) hb1 | exact Ext.trans (Ext.trans (Ext.trans (Ext.alloc_ _ _) (Ext.alloc_ _ _)) (Ext.alloc_ _ _)) hb1
    clear hb1
    go_wp2_with fail
    exact bodyPost_ret (v := .tuple #[.agg #[.int .i64 a, .int .i64 m, .int .i64 x, .int .i64 b, .int .i64 wd, .int .i64 wt, .int .i64 il, .int .i64 rt, .int .i64 dr], .bool false]) (by simp [results, Try.results155, go_sem, *]) rfl ⟨rfl, by repeat (first | (with_reducible exact Below.refl _ _) | (with_reducible assumption) | (with_reducible refine Below.alloc ?_ (by simp <;> omega) _) | (with_reducible refine Below.setCell ?_ (by simp <;> omega) _) | (with_reducible refine Below.drew ?_))⟩
set_option maxHeartbeats 800000 in
theorem iFail (a m x b wd wt il rt dr : Int) (s : Int) (ok la : Bool) (hok : bkB a m x b wd wt il rt dr = ok) (hla : (rt == 7) = la) (w : World) : Calls Try.prog 26 #[.agg #[.int .i64 a, .int .i64 m, .int .i64 x, .int .i64 b, .int .i64 wd, .int .i64 wt, .int .i64 il, .int .i64 rt, .int .i64 dr], .int .i64 s] w
    fun e w' => e = .returned (.tuple #[.agg #[.int .i64 a, .int .i64 m, .int .i64 x, .int .i64 b, .int .i64 (sel ok (sel la m (nextV a m x b wd)) wd), .int .i64 (sel ok (sel la (rwV s dr m) (rwV s dr (nextV a m x b wd))) wt), .int .i64 (sel ok 0 il), .int .i64 (sel ok (sel la 0 (rt + 1)) rt), .int .i64 (sel ok (drV dr) dr)], .bool (ok && !la)]) ∧ Below w.heap.size w w' := by
  cases ok with
  | true =>
    obtain ⟨a1, a2, m1, m2, d1, d2, t1, t2, i1, i2, r1, r2, g1, g2⟩ := bk_bd hok
    cases la with
    | true =>
      have hok' := Lib.hid hok
      clear hok
      simp only [sel_t, Bool.not_true, Bool.and_false]
      go_enter Try.func26, Try.ntmps26
      go_wp2_with fail
      refine (iBkOk _ _ _ _ _ _ _ _ _ _).mono ?_
      rintro e w1 ⟨rfl, hb1⟩
      rw [hok'.out]
      obtain ⟨hc1, hf1⟩ := bcell (hb1)
      have hz1 : w.heap.size + 1 < w1.heap.size := by have := hb1.size; simp at this; omega
      go_wp2_with fail
      refine (iSuc _ _ _ _ _ _ _ _ _ _ _ hok'.out _).mono ?_
      rintro e w2 ⟨rfl, hb2⟩
      have hz2 := hb2.size
      have hb0 : Below w.heap.size w w2 := Ext.trans (Ext.trans (Ext.trans (Ext.alloc_ _ _) (Ext.alloc_ _ _)) hb1) hb2
      have hR := ext_blk hb2 (ext_blk hb1 (new_blk2 w _ _ _))
      obtain ⟨hr1, hr2, hr3⟩ := blk_cells hR
      simp only [sel_t]
      clear hc1 hf1 hb1 hb2 hR
      go_wp2_with fail
      exact bodyPost_ret (v := .tuple #[.agg #[.int .i64 a, .int .i64 m, .int .i64 x, .int .i64 b, .int .i64 m, .int .i64 (rwV s dr m), .int .i64 0, .int .i64 0, .int .i64 (drV dr)], .bool false]) (by simp [results, Try.results26, go_sem, *]) rfl ⟨rfl, by repeat (first | (with_reducible exact Below.refl _ _) | (with_reducible assumption) | (with_reducible refine Below.alloc ?_ (by simp <;> omega) _) | (with_reducible refine Below.setCell ?_ (by simp <;> omega) _) | (with_reducible refine Below.drew ?_))⟩
    | false =>
      have hok' := Lib.hid hok
      clear hok
      simp only [sel_t, sel_f, Bool.not_false, Bool.and_true]
      go_enter Try.func26, Try.ntmps26
      go_wp2_with fail
      refine (iBkOk _ _ _ _ _ _ _ _ _ _).mono ?_
      rintro e w1 ⟨rfl, hb1⟩
      rw [hok'.out]
      obtain ⟨hc1, hf1⟩ := bcell (hb1)
      have hz1 : w.heap.size + 1 < w1.heap.size := by have := hb1.size; simp at this; omega
      have hwr : IntKind.i64.wrap (rt + 1) = rt + 1 := IntWalk.i64_in _ (by omega)
      have c4 : w1.cell? ⟨w.heap.size, 4, none⟩ = some (.int .i64 wd) := by rw [hc1 _ _ (by simp <;> omega)]; simp [go_sem]
      have c7 : w1.cell? ⟨w.heap.size, 7, none⟩ = some (.int .i64 rt) := by rw [hc1 _ _ (by simp <;> omega)]; simp [go_sem]
      go_wp2_with fail
      refine (iNext _ _ _ _ _ _).mono ?_
      rintro e w2 ⟨rfl, hb2⟩
      have hz2 : w1.heap.size ≤ w2.heap.size := by have := hb2.size; simpa [World.setCell] using this
      have hB2 := ext_blk hb2 (blk_set (ext_blk hb1 (alloc_blk _ (new_blk1 w _ _))) 7 (.int .i64 (rt + 1)))
      have hR2 := ext_blk hb2 (set_blk (p := ⟨w.heap.size, 7, none⟩) (u := .int .i64 (rt + 1)) (ext_blk hb1 (new_blk2 w _ _ _)) (by simp))
      have hb0 : Below w.heap.size w w2 := by
        refine Below.trans ?_ (Below.mono hb2 (by simp [World.setCell]; omega))
        have hb3 : Below w.heap.size w w1 := Ext.trans (Ext.trans (Ext.alloc_ _ _) (Ext.alloc_ _ _)) hb1
        repeat (first | (with_reducible exact Below.refl _ _) | (with_reducible assumption) | (with_reducible refine Below.alloc ?_ (by simp <;> omega) _) | (with_reducible refine Below.setCell ?_ (by simp <;> omega) _) | (with_reducible refine Below.drew ?_))
      clear hc1 hf1 c4 c7 hb1 hb2
      simp only [List.setIfInBounds_toArray, List.set_cons_zero, List.set_cons_succ] at hB2
      obtain ⟨hc2, hf2, hq2⟩ := blk_cells hB2
      have c4 : w2.cell? ⟨w.heap.size, 4, none⟩ = some (.int .i64 wd) := by rw [hc2 4]; rfl
      go_wp2_with fail
      refine (iDraw _ _ _ _ _ _ _ _ _ _ ⟨g1, g2⟩ _).mono ?_
      rintro e w3 ⟨rfl, hb3⟩
      have hz3 : w2.heap.size ≤ w3.heap.size := by have := hb3.size; simpa [World.setCell] using this
      have hR3 := ext_blk hb3 (set_blk (p := ⟨w.heap.size, 4, none⟩) (u := .int .i64 (nextV a m x b wd)) hR2 (by simp))
      have hb4 : Below w.heap.size w w3 := by
        refine Below.trans ?_ (Below.mono hb3 (by simp [World.setCell]; omega))
        repeat (first | (with_reducible exact Below.refl _ _) | (with_reducible assumption) | (with_reducible refine Below.alloc ?_ (by simp <;> omega) _) | (with_reducible refine Below.setCell ?_ (by simp <;> omega) _) | (with_reducible refine Below.drew ?_))
      obtain ⟨hr1, hr2, hr3⟩ := blk_cells hR3
      clear hB2 hR2 hc2 hf2 hq2 c4 hb3 hR3 hb0
      go_wp2_with fail
      exact bodyPost_ret (v := .tuple #[.agg #[.int .i64 a, .int .i64 m, .int .i64 x, .int .i64 b, .int .i64 (nextV a m x b wd), .int .i64 (rwV s dr (nextV a m x b wd)), .int .i64 0, .int .i64 (rt + 1), .int .i64 (drV dr)], .bool true]) (by simp [results, Try.results26, go_sem, *]) rfl ⟨rfl, by repeat (first | (with_reducible exact Below.refl _ _) | (with_reducible assumption) | (with_reducible refine Below.alloc ?_ (by simp <;> omega) _) | (with_reducible refine Below.setCell ?_ (by simp <;> omega) _) | (with_reducible refine Below.drew ?_))⟩
  | false =>
    simp only [sel_f, Bool.false_and]
    go_enter Try.func26, Try.ntmps26
    go_wp2_with fail
    refine (iBkOk _ _ _ _ _ _ _ _ _ _).mono ?_
    rintro e w1 ⟨rfl, hb1⟩
    rw [hok]
    obtain ⟨hc1, hf1⟩ := bcell (hb1)
    have hz1 : w.heap.size + 1 < w1.heap.size := by have := hb1.size; simp at this; omega
    have hb0 : Below w.heap.size w w1 := by first | exact Ext.trans (Ext.alloc_ _ _) hb1 | exact Ext.trans (Ext.trans (Ext.alloc_ _ _) (Ext.alloc_ _ _)) hb1 | exact Ext.trans (Ext.trans (Ext.trans (Ext.alloc_ _ _) (Ext.alloc_ _ _)) (Ext.alloc_ _ _)) hb1
    clear hb1
    go_wp2_with fail
    exact bodyPost_ret (v := .tuple #[.agg #[.int .i64 a, .int .i64 m, .int .i64 x, .int .i64 b, .int .i64 wd, .int .i64 wt, .int .i64 il, .int .i64 rt, .int .i64 dr], .bool false]) (by simp [results, Try.results26, go_sem, *]) rfl ⟨rfl, by repeat (first | (with_reducible exact Below.refl _ _) | (with_reducible assumption) | (with_reducible refine Below.alloc ?_ (by simp <;> omega) _) | (with_reducible refine Below.setCell ?_ (by simp <;> omega) _) | (with_reducible refine Below.drew ?_))⟩
end Go.Proofs.Ytkmklafjcjkpdaa
