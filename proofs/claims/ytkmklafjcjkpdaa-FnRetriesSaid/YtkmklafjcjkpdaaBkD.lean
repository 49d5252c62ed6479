/- Draws of backoffs. -/
import Derived.Test.YtkmklafjcjkpdaaDpar
import Derived.Test.YtkmklafjcjkpdaaG10
namespace Go.Proofs.Ytkmklafjcjkpdaa
open Go.RowKit
set_option linter.unusedVariables false
set_option linter.unusedSimpArgs false
/-- The bounds of a drawn backoff's numbers. -/
def Bd (z : Int) : Prop := -1 ≤ z ∧ z ≤ 1000000000001
def Bds (a m x b wd wt il rt dr : Int) : Prop := Bd a ∧ Bd m ∧ Bd x ∧ Bd b ∧ Bd wd ∧ Bd wt ∧ Bd il ∧ Bd rt ∧ Bd dr
theorem Bd.mk {z : Int} (h : -1 ≤ z) (k : z ≤ 1000000000001) : Bd z := ⟨h, k⟩
theorem Bd.sel {c : Bool} {x y : Int} (h : Bd x) (k : Bd y) : Bd (sel c x y) := by cases c <;> assumption
theorem Bd.tkI {ok bz : Bool} {a il : Int} (ha : Bd a) (h : Bd il) : Bd (tkI ok bz a il) := by
  unfold Go.Proofs.Ytkmklafjcjkpdaa.tkI Bd at *
  split <;> (try split) <;> (try split) <;> omega
theorem Bd.tkW {ok bz : Bool} {a il wt : Int} (h : Bd wt) : Bd (tkW ok bz a il wt) := by
  unfold Go.Proofs.Ytkmklafjcjkpdaa.tkW Bd at *
  split
  · rename_i h1
    simp only [Bool.and_eq_true, decide_eq_true_eq] at h1
    omega
  · omega
theorem Bd.rw_ {s d wd : Int} (h : Bd wd) : Bd (rwV s d wd) := by
  have := rwV_bd s d wd
  unfold Bd at *
  omega
theorem Bd.next {a m x b wd : Int} (hm : Bd m) (hx : Bd x) (hw : Bd wd) : Bd (nextV a m x b wd) := by
  unfold nextV
  split
  · rename_i h
    have h1 := parB_bd h
    split
    · rename_i h2
      have := inB_true h2
      unfold Bd at *
      omega
    · exact hm
  · exact ⟨by decide, by decide⟩
theorem Bd.dr {d : Int} (h : Bd d) : Bd (drV d) := by
  unfold drV Bd at *
  omega
theorem bds_tick {a m x b wd wt il rt dr : Int} (h : Bds a m x b wd wt il rt dr) (ok bz : Bool) : Bds a m x b wd (tkW ok bz a il wt) (tkI ok bz a il) rt dr := by
  obtain ⟨h1, h2, h3, h4, h5, h6, h7, h8, h9⟩ := h
  exact ⟨h1, h2, h3, h4, h5, h6.tkW, Bd.tkI h1 h7, h8, h9⟩
theorem bds_fail {a m x b wd wt il rt dr s : Int} {ok la : Bool} (hok : bkB a m x b wd wt il rt dr = ok) (h : Bds a m x b wd wt il rt dr) : Bds a m x b (sel ok (sel la m (nextV a m x b wd)) wd) (sel ok (sel la (rwV s dr m) (rwV s dr (nextV a m x b wd))) wt) (sel ok 0 il) (sel ok (sel la 0 (rt + 1)) rt) (sel ok (drV dr) dr) := by
  obtain ⟨h1, h2, h3, h4, h5, h6, h7, h8, h9⟩ := h
  refine ⟨h1, h2, h3, h4, (Bd.sel h2 (h2.next h3 h5)).sel h5, (Bd.sel h2.rw_ (h2.next h3 h5).rw_).sel h6, (Bd.mk (by decide) (by decide)).sel h7, ?_, h9.dr.sel h9⟩
  cases ok with
  | false => exact h8
  | true =>
    obtain ⟨a1, a2, m1, m2, d1, d2, t1, t2, i1, i2, r1, r2, g1, g2⟩ := bk_bd hok
    rw [sel_t]
    exact Bd.sel ⟨by decide, by decide⟩ ⟨by omega, by omega⟩
theorem bds_suc {a m x b wd wt il rt dr s : Int} {ok : Bool} (h : Bds a m x b wd wt il rt dr) : Bds a m x b (sel ok m wd) (sel ok (rwV s dr m) wt) (sel ok 0 il) (sel ok 0 rt) (sel ok (drV dr) dr) := by
  obtain ⟨h1, h2, h3, h4, h5, h6, h7, h8, h9⟩ := h
  exact ⟨h1, h2, h3, h4, h2.sel h5, h2.rw_.sel h6, (Bd.mk (by decide) (by decide)).sel h7, (Bd.mk (by decide) (by decide)).sel h8, h9.dr.sel h9⟩
theorem bds_new (c s : Int) : Bds (pfA c) (pfM c) (pfX c) (pfB c) (pfM c) (nbW c s) 0 0 (nbD c) := by
  have h := pf_bd c
  have hM : Bd (pfM c) := ⟨by omega, by omega⟩
  refine ⟨⟨by omega, by omega⟩, hM, ⟨by omega, by omega⟩, ⟨by omega, by omega⟩, hM, ?_, ⟨by decide, by decide⟩, ⟨by decide, by decide⟩, ?_⟩
  · unfold nbW
    split
    · exact hM.rw_
    · exact ⟨by decide, by decide⟩
  · unfold nbD
    split <;> exact ⟨by decide, by decide⟩
/-- Nine cells of a block are written. -/
abbrev put9 (w : World) (g : Nat) (a m x b wd wt il rt dr : Int) : World :=
  ((((((((w.setCell ⟨g, 0, none⟩ (.int .i64 a)).setCell ⟨g, 1, none⟩ (.int .i64 m)).setCell ⟨g, 2, none⟩ (.int .i64 x)).setCell ⟨g, 3, none⟩ (.int .i64 b)).setCell ⟨g, 4, none⟩ (.int .i64 wd)).setCell ⟨g, 5, none⟩ (.int .i64 wt)).setCell ⟨g, 6, none⟩ (.int .i64 il)).setCell ⟨g, 7, none⟩ (.int .i64 rt)).setCell ⟨g, 8, none⟩ (.int .i64 dr)
theorem put9_blk {w : World} {g : Nat} {t : TypeId} {a m x b wd wt il rt dr a' m' x' b' wd' wt' il' rt' dr' : Int} (h : w.heap[g]? = some (.cells #[.int .i64 a', .int .i64 m', .int .i64 x', .int .i64 b', .int .i64 wd', .int .i64 wt', .int .i64 il', .int .i64 rt', .int .i64 dr'] t (0, 0))) :
    (put9 w g a m x b wd wt il rt dr).heap[g]? = some (.cells #[.int .i64 a, .int .i64 m, .int .i64 x, .int .i64 b, .int .i64 wd, .int .i64 wt, .int .i64 il, .int .i64 rt, .int .i64 dr] t (0, 0)) := by
  have h1 := blk_set (blk_set (blk_set (blk_set (blk_set (blk_set (blk_set (blk_set (blk_set h 0 (.int .i64 a)) 1 (.int .i64 m)) 2 (.int .i64 x)) 3 (.int .i64 b)) 4 (.int .i64 wd)) 5 (.int .i64 wt)) 6 (.int .i64 il)) 7 (.int .i64 rt)) 8 (.int .i64 dr)
  simpa using h1
theorem put9_oth {w : World} {g y : Nat} {o : Obj} {a m x b wd wt il rt dr : Int} (h : w.heap[y]? = some o) (hne : y ≠ g) : (put9 w g a m x b wd wt il rt dr).heap[y]? = some o := by
  iterate 9 refine set_blk ?_ hne
  exact h
theorem put9_drawn {w w' : World} {q g : Nat} {a m x b wd wt il rt dr : Int} (h : Drawn w w' q) (hg : w.heap.size ≤ g) (hq : q < g) : Drawn w (put9 w' g a m x b wd wt il rt dr) q := by
  iterate 9 refine Drawn.set_ ?_ hg hq _
  exact h
theorem put9_ext {w w' : World} {g : Nat} {a m x b wd wt il rt dr : Int} (h : Ext w w') (hg : w.heap.size ≤ g) : Ext w (put9 w' g a m x b wd wt il rt dr) := by
  iterate 9 refine Ext.setCell_ ?_ hg _
  exact h
def FailP (v : Value) : Prop := ∃ (a m x bb wd wt il rt dr : Int) (z : Bool), v = .tuple #[.agg #[.int .i64 a, .int .i64 m, .int .i64 x, .int .i64 bb, .int .i64 wd, .int .i64 wt, .int .i64 il, .int .i64 rt, .int .i64 dr], .bool z] ∧ Bds a m x bb wd wt il rt dr
def BakP (v : Value) : Prop := ∃ a m x bb wd wt il rt dr : Int, v = .agg #[.int .i64 a, .int .i64 m, .int .i64 x, .int .i64 bb, .int .i64 wd, .int .i64 wt, .int .i64 il, .int .i64 rt, .int .i64 dr] ∧ Bds a m x bb wd wt il rt dr
def IntP (v : Value) : Prop := ∃ f : Int, v = .int .i64 f
def BoolP (v : Value) : Prop := ∃ z : Bool, v = .bool z
def BakB (w : World) (g : Nat) : Prop := ∃ a m x bb wd wt il rt dr : Int, w.heap[g]? = some (.cells #[.int .i64 a, .int .i64 m, .int .i64 x, .int .i64 bb, .int .i64 wd, .int .i64 wt, .int .i64 il, .int .i64 rt, .int .i64 dr] 27 (0, 0)) ∧ Bds a m x bb wd wt il rt dr
/-- Changed at the cursor's block and at a block that holds a bounded backoff. -/
abbrev relG (b g : Nat) : C.Rel where
  r w w' := Chg w w' (fun y => y = b ∨ y = g) ∧ (Cur w b → Cur w' b) ∧ (BakB w g → BakB w' g)
  rf w := ⟨Chg.refl _ _, id, id⟩
  tr h k := ⟨h.1.trans k.1, fun x => k.2.1 (h.2.1 x), fun x => k.2.2 (h.2.2 x)⟩
  dr h := ⟨h.1.trans (Chg.of_ext _ (Ext.drew (Ext.refl _))), fun x => (h.2.1 x).ext (Ext.drew (Ext.refl _)), fun x => by
    obtain ⟨a, m, x, bb, wd, wt, il, rt, dr, h1, h2⟩ := h.2.2 x
    exact ⟨a, m, x, bb, wd, wt, il, rt, dr, ext_blk (Ext.drew (Ext.refl _)) h1, h2⟩⟩
abbrev XG (b g : Nat) (w w' : World) : Prop := C.Ext (R := relG b g) w w'
section
variable {w w' : World} {b g : Nat}
theorem XG.of_drawn (h : Drawn w w' b) (hne : g ≠ b) : XG b g w w' := ⟨⟨h.1.os, h.1.tape, h.1.output, h.1.size, fun y hy hS => h.1.block y hy (fun h => hS (.inl h))⟩, fun _ => h.2, fun ⟨a, m, x, bb, wd, wt, il, rt, dr, h1, h2⟩ => ⟨a, m, x, bb, wd, wt, il, rt, dr, h.blk h1 hne, h2⟩⟩
theorem XG.of_ext (h : Ext w w') : XG b g w w' := ⟨Chg.of_ext _ h, fun x => x.ext h, fun ⟨a, m, x, bb, wd, wt, il, rt, dr, h1, h2⟩ => ⟨a, m, x, bb, wd, wt, il, rt, dr, ext_blk h h1, h2⟩⟩
theorem XG.put9 {a m x bb wd wt il rt dr : Int} (hb : b < g) (hB : Bds a m x bb wd wt il rt dr) : XG b g w (put9 w g a m x bb wd wt il rt dr) := by
  refine ⟨?_, fun h => ?_, fun ⟨a', m', x', bb', wd', wt', il', rt', dr', h1, h2⟩ => ⟨a, m, x, bb, wd, wt, il, rt, dr, put9_blk h1, hB⟩⟩
  · iterate 9 refine Chg.set ?_ (.inr rfl) _
    exact Chg.refl _ _
  · iterate 9 refine Cur.set_ ?_ hb _
    exact h
theorem XG.blk (h : XG b g w w') {y : Nat} {o : Obj} (hy : w.heap[y]? = some o) (hb : y ≠ b) (hg : y ≠ g) : w'.heap[y]? = some o := by
  rw [h.1.block y (heap_lt hy) (by omega), hy]
theorem XG.drawn {a : World} (h : XG b g w w') (hD : Drawn a w b) (hg : a.heap.size ≤ g) : Drawn a w' b := by
  have hz := hD.1.size
  refine ⟨⟨by rw [h.1.os, hD.1.os], by rw [h.1.tape, hD.1.tape], by rw [h.1.output, hD.1.output], Nat.le_trans hz h.1.size, fun y hy hne => ?_⟩, h.2.1 hD.2⟩
  rw [h.1.block y (by omega) (by omega)]
  exact hD.1.block y hy hne
end
/-- A value that is as said. -/
def SPG.val (b g : Nat) (Φ : Value → Prop) : C.SP (R := relG b g) := C.SP.mk (R := relG b g) (fun v _ => Φ v) (fun _ _ _ _ h => h) id (fun _ _ _ => rfl)
set_option maxHeartbeats 2000000 in
theorem sBackoff (w : World) (b : Nat) (hC : Cur w b) :
    Calls Try.prog 142 #[.pointer (some ⟨b, 0, none⟩)] w fun e w' => ∃ a m x bb wd wt il rt dr : Int, e = .returned (.agg #[.int .i64 a, .int .i64 m, .int .i64 x, .int .i64 bb, .int .i64 wd, .int .i64 wt, .int .i64 il, .int .i64 rt, .int .i64 dr]) ∧ Bds a m x bb wd wt il rt dr ∧ Drawn w w' b := by
  have hlt := hC.lt
  have D0 := Lib.hid (Drawn.of_ext hC (Ext.alloc_ w (.cells #[.int .i64 0, .int .i64 0, .int .i64 0, .int .i64 0, .int .i64 0, .int .i64 0, .int .i64 0, .int .i64 0, .int .i64 0] 27)))
  have bR := Lib.hid (new_blk1 w #[.int .i64 0, .int .i64 0, .int .i64 0, .int .i64 0, .int .i64 0, .int .i64 0, .int .i64 0, .int .i64 0, .int .i64 0] 27)
  have hneR : w.heap.size ≠ b := by omega
  clear hC
  go_enter Try.func142, Try.ntmps142
  go_wp2_with fail
  refine (sBelow _ _ _ D0.out.2 (by decide)).mono ?_
  rintro e w1 ⟨ct, rfl, hct, hD⟩
  have D1 := Lib.hid (D0.out.trans hD)
  have bR1 := Lib.hid (hD.blk bR.out hneR)
  clear hD D0 bR
  go_wp2_with fail
  refine (sBelow _ _ _ D1.out.2 (by decide)).mono ?_
  rintro e w2 ⟨sd, rfl, hsd, hD⟩
  have D2 := Lib.hid (D1.out.trans hD)
  have bR2 := Lib.hid (hD.blk bR1.out hneR)
  clear hD D1 bR1
  go_wp2_with fail
  refine (sNewBk _ _ _).mono ?_
  rintro e w3 ⟨rfl, hE⟩
  have hB := Lib.hid (bds_new ct sd)
  generalize pfA ct = a at *
  generalize pfM ct = m at *
  generalize pfX ct = x at *
  generalize pfB ct = bb at *
  generalize nbW ct sd = wt at *
  generalize nbD ct = dr at *
  have e3 := Ext.alloc_ w3 (.cells #[.int .i64 a, .int .i64 m, .int .i64 x, .int .i64 bb, .int .i64 m, .int .i64 wt, .int .i64 0, .int .i64 0, .int .i64 dr] 27)
  have b3 := new_blk1 w3 #[.int .i64 a, .int .i64 m, .int .i64 x, .int .i64 bb, .int .i64 m, .int .i64 wt, .int .i64 0, .int .i64 0, .int .i64 dr] 27
  have D3 := Lib.hid (D2.out.ext (Ext.trans hE e3))
  have bR3 := Lib.hid (ext_blk (Ext.trans hE e3) bR2.out)
  have hRg : w.heap.size < w3.heap.size := by have := heap_lt bR2.out; have := hE.size; omega
  have hgb : b < w3.heap.size := by have := D2.out.2.lt; have := hE.size; omega
  have b3' := Lib.hid b3
  clear hE e3 D2 bR2 b3 hsd hct
  go_wp2_with fail
  refine (sBelow _ _ _ D3.out.2 (by decide)).mono ?_
  rintro e w4 ⟨it, rfl, hit, hD⟩
  have D4 := Lib.hid (D3.out.trans hD)
  have bR4 := Lib.hid (hD.blk bR3.out hneR)
  have b4 := Lib.hid (hD.blk b3'.out (by omega))
  generalize w3.heap.size = g at *
  clear hD D3 bR3 b3'
  go_wp2_with fail
  go_loopw [4] (fun i wr => ∃ iv a m x bb wd wt il rt dr : Int, i = .int .i64 iv ∧ (0 ≤ iv ∧ iv ≤ 20) ∧ Bds a m x bb wd wt il rt dr ∧ wr.heap[g]? = some (.cells #[.int .i64 a, .int .i64 m, .int .i64 x, .int .i64 bb, .int .i64 wd, .int .i64 wt, .int .i64 il, .int .i64 rt, .int .i64 dr] 27 (0, 0)) ∧ wr.heap[w.heap.size]? = some (.cells #[.int .i64 0, .int .i64 0, .int .i64 0, .int .i64 0, .int .i64 0, .int .i64 0, .int .i64 0, .int .i64 0, .int .i64 0] 27 (0, 0)) ∧ Drawn w wr b) (fun i _ => (intOf i).toNat)
  case atStart => exact ⟨it, a, m, x, bb, m, wt, 0, 0, dr, rfl, ⟨by omega, by omega⟩, hB.out, b4.out, bR4.out, D4.out⟩
  case round =>
    clear hB b4 bR4 D4 hit
    obtain ⟨iv, a, m, x, bb, wd, wt, il, rt, dr, rfl, hiv, hB, hg, hR, hD⟩ := hrel
    have HB := Lib.hid hB
    have HG := Lib.hid hg
    have HR := Lib.hid hR
    have HD := Lib.hid hD
    clear hB hg hR hD
    by_cases h0 : 0 < iv
    · have hwr : IntKind.i64.wrap (iv - 1) = iv - 1 := IntWalk.i64_in _ (by omega)
      go_wp2_with fail
      refine (sBelow _ _ _ HD.out.2 (by decide)).mono ?_
      rintro e w5 ⟨k, rfl, hk, hD⟩
      have D5 := Lib.hid (HD.out.trans hD)
      have b5 := Lib.hid (hD.blk HG.out (by omega))
      have bR5 := Lib.hid (hD.blk HR.out hneR)
      clear hD HD HG HR
      obtain ⟨x1, x2, x3⟩ := blk_cells b5.out
      have p0 := x1 0
      have p1 := x1 1
      have p2 := x1 2
      have p3 := x1 3
      have p4 := x1 4
      have p5 := x1 5
      have p6 := x1 6
      have p7 := x1 7
      have p8 := x1 8
      simp at p0 p1 p2 p3 p4 p5 p6 p7 p8
      clear x1
      by_cases k0 : k = 0
      · subst k0
        go_wp2_with fail
        refine (sTick _ _ _ _ _ _ _ _ _ true _).mono ?_
        rintro e w6 ⟨rfl, h6⟩
        have D6 := Lib.hid (D5.out.ext h6)
        have b6 := Lib.hid (ext_blk h6 b5.out)
        have bR6 := Lib.hid (ext_blk h6 bR5.out)
        clear p0 p1 p2 p3 p4 p5 p6 p7 p8 x2 x3
        clear h6 D5 b5 bR5
        obtain ⟨x1, x2, x3⟩ := blk_cells b6.out
        have p0 := x1 0
        have p1 := x1 1
        have p2 := x1 2
        have p3 := x1 3
        have p4 := x1 4
        have p5 := x1 5
        have p6 := x1 6
        have p7 := x1 7
        have p8 := x1 8
        simp at p0 p1 p2 p3 p4 p5 p6 p7 p8
        clear x1
        go_wp2_with fail
        go_roundw
        case rel => exact ⟨iv - 1, a, m, x, bb, wd, _, _, rt, dr, rfl, ⟨by omega, by omega⟩, bds_tick HB.out _ _, put9_blk b6.out, put9_oth bR6.out (by omega), put9_drawn D6.out (by omega) hgb⟩
        case measure => simp [intOf]; omega
      by_cases k1 : k = 1
      · subst k1
        go_wp2_with fail
        refine C.wp_region_chain (R := relG b g) 8 (by kernel_rfl) (by kernel_rfl) ?_
        simp only [List.take_succ_cons, List.take_zero, List.drop_succ_cons, List.drop_zero]
        refine C.Chain.sp (R := relG b g) (SPG.val b g BakP) ?_ ?_
        · intro vs wq hEq hd
          obtain ⟨a', m', x', bb', wd', wt', il', rt', dr', h1, h2⟩ := hEq.2.2 ⟨_, _, _, _, _, _, _, _, _, b5.out, HB.out⟩
          have H2 := Lib.hid h2
          clear p0 p1 p2 p3 p4 p5 p6 p7 p8 x2 x3
          obtain ⟨x1, x2, x3⟩ := blk_cells h1
          have p0 := x1 0
          have p1 := x1 1
          have p2 := x1 2
          have p3 := x1 3
          have p4 := x1 4
          have p5 := x1 5
          have p6 := x1 6
          have p7 := x1 7
          have p8 := x1 8
          simp at p0 p1 p2 p3 p4 p5 p6 p7 p8
          clear x1
          clear hd hEq h1 h2
          (try simp only [Act.put, C.SP.pick, C.SP.is, SPG.val, id_eq, List.take_succ_cons, List.take_zero, List.drop_succ_cons, List.drop_zero, List.setIfInBounds_toArray, List.set_cons_zero, List.set_cons_succ])
          refine C.growOp_go (R := relG b g) ?_
          go_simp
          exact ⟨C.Ext.refl (R := relG b g) _, a', m', x', bb', wd', wt', il', rt', dr', rfl, H2.out⟩
        refine C.Chain.quiet (R := relG b g) (V := .pointer (some ⟨b, 0, none⟩)) ?_ ?_
        · intro vs wq hEq hd
          clear hEq hd
          (try simp only [Act.put, C.SP.pick, C.SP.is, SPG.val, id_eq, List.take_succ_cons, List.take_zero, List.drop_succ_cons, List.drop_zero, List.setIfInBounds_toArray, List.set_cons_zero, List.set_cons_succ])
          refine C.growOp_go (R := relG b g) ?_
          go_simp
          exact C.Ext.refl (R := relG b g) _
        refine C.Chain.sp (R := relG b g) (SPG.val b g IntP) ?_ ?_
        · intro vs wq hEq hd
          have hC := Lib.hid (hEq.2.1 D5.out.2)
          clear hd hEq
          (try simp only [Act.put, C.SP.pick, C.SP.is, SPG.val, id_eq, List.take_succ_cons, List.take_zero, List.drop_succ_cons, List.drop_zero, List.setIfInBounds_toArray, List.set_cons_zero, List.set_cons_succ])
          refine C.growOp_go (R := relG b g) ?_
          go_simp
          refine (sBelow _ _ _ hC.out (by decide)).mono ?_
          rintro e w6 ⟨f, rfl, hf, hD⟩
          exact ⟨_, rfl, XG.of_drawn hD (by omega), f, rfl⟩
        refine C.Chain.sp (R := relG b g) (SPG.val b g FailP) ?_ ?_
        · intro vs wq hEq hd
          obtain ⟨a', m', x', bb', wd', wt', il', rt', dr', e8, hB'⟩ := hd 0 (by kernel_rfl)
          obtain ⟨f, e7⟩ := hd 2 (by kernel_rfl)
          have HB' := Lib.hid hB'
          clear hd hEq hB'
          simp only [Act.put, C.SP.pick, C.SP.is, SPG.val, id_eq, List.take_succ_cons, List.take_zero, List.drop_succ_cons, List.drop_zero, List.setIfInBounds_toArray, List.set_cons_zero, List.set_cons_succ]
          rw [e7, e8]
          refine C.growOp_go (R := relG b g) ?_
          clear e7 e8
          go_simp
          refine (sFail a' m' x' bb' wd' wt' il' rt' dr' f _ _ rfl rfl _).mono ?_
          rintro e w6 ⟨rfl, hb⟩
          exact ⟨_, rfl, XG.of_ext hb, _, _, _, _, _, _, _, _, _, _, rfl, bds_fail rfl HB'.out⟩
        refine C.Chain.sp (R := relG b g) (SPG.val b g FailP) ?_ ?_
        · intro vs wq hEq hd
          obtain ⟨a', m', x', bb', wd', wt', il', rt', dr', z, e7, hB'⟩ := hd 3 (by kernel_rfl)
          clear hd hEq
          simp only [Act.put, C.SP.pick, C.SP.is, SPG.val, id_eq, List.take_succ_cons, List.take_zero, List.drop_succ_cons, List.drop_zero, List.setIfInBounds_toArray, List.set_cons_zero, List.set_cons_succ]
          rw [e7]
          refine C.growOp_go (R := relG b g) ?_
          clear e7
          go_simp
          exact ⟨C.Ext.refl (R := relG b g) _, a', m', x', bb', wd', wt', il', rt', dr', z, rfl, hB'⟩
        refine C.Chain.sp (R := relG b g) (SPG.val b g BakP) ?_ ?_
        · intro vs wq hEq hd
          obtain ⟨a', m', x', bb', wd', wt', il', rt', dr', z, e7, hB'⟩ := hd 4 (by kernel_rfl)
          clear hd hEq
          simp only [Act.put, C.SP.pick, C.SP.is, SPG.val, id_eq, List.take_succ_cons, List.take_zero, List.drop_succ_cons, List.drop_zero, List.setIfInBounds_toArray, List.set_cons_zero, List.set_cons_succ]
          rw [e7]
          refine C.growOp_go (R := relG b g) ?_
          clear e7
          go_simp
          exact ⟨C.Ext.refl (R := relG b g) _, a', m', x', bb', wd', wt', il', rt', dr', rfl, hB'⟩
        refine C.Chain.sp (R := relG b g) (SPG.val b g BoolP) ?_ ?_
        · intro vs wq hEq hd
          obtain ⟨a', m', x', bb', wd', wt', il', rt', dr', z, e7, hB'⟩ := hd 4 (by kernel_rfl)
          clear hd hEq
          simp only [Act.put, C.SP.pick, C.SP.is, SPG.val, id_eq, List.take_succ_cons, List.take_zero, List.drop_succ_cons, List.drop_zero, List.setIfInBounds_toArray, List.set_cons_zero, List.set_cons_succ]
          rw [e7]
          refine C.growOp_go (R := relG b g) ?_
          clear e7
          go_simp
          exact ⟨C.Ext.refl (R := relG b g) _, z, rfl⟩
        refine C.Chain.sp (R := relG b g) (C.SP.top (R := relG b g)) ?_ ?_
        · intro vs wq hEq hd
          obtain ⟨a', m', x', bb', wd', wt', il', rt', dr', e7, hB'⟩ := hd 5 (by kernel_rfl)
          obtain ⟨a4, m4, x4, bb4, wd4, wt4, il4, rt4, dr4, h1, h2⟩ := hEq.2.2 ⟨_, _, _, _, _, _, _, _, _, b5.out, HB.out⟩
          have H2 := Lib.hid hB'
          clear p0 p1 p2 p3 p4 p5 p6 p7 p8 x2 x3
          obtain ⟨x1, x2, x3⟩ := blk_cells h1
          have p0 := x1 0
          have p1 := x1 1
          have p2 := x1 2
          have p3 := x1 3
          have p4 := x1 4
          have p5 := x1 5
          have p6 := x1 6
          have p7 := x1 7
          have p8 := x1 8
          simp at p0 p1 p2 p3 p4 p5 p6 p7 p8
          clear x1
          clear hd hEq h1 h2 hB'
          simp only [Act.put, C.SP.pick, C.SP.is, SPG.val, id_eq, List.take_succ_cons, List.take_zero, List.drop_succ_cons, List.drop_zero, List.setIfInBounds_toArray, List.set_cons_zero, List.set_cons_succ]
          rw [e7]
          refine C.growOp_go (R := relG b g) ?_
          clear e7
          go_simp
          exact ⟨XG.put9 hgb H2.out, trivial⟩
        refine C.Chain.done (R := relG b g) ?_
        intro vs w6 hE6 hd6
        simp only [Act.put, C.SP.pick, C.SP.is, SPG.val, id_eq, List.take_succ_cons, List.take_zero, List.drop_succ_cons, List.drop_zero, List.setIfInBounds_toArray, List.set_cons_zero, List.set_cons_succ]
        have D6 := Lib.hid (XG.drawn hE6 D5.out (by omega))
        have BB6 := hE6.2.2 ⟨_, _, _, _, _, _, _, _, _, b5.out, HB.out⟩
        have bR6 := Lib.hid (XG.blk hE6 bR5.out hneR (by omega))
        obtain ⟨a', m', x', bb', wd', wt', il', rt', dr', h1, h2⟩ := BB6
        have b6 := Lib.hid h1
        have H2 := Lib.hid h2
        clear p0 p1 p2 p3 p4 p5 p6 p7 p8 x2 x3
        clear hd6 hE6 D5 b5 bR5 HB h1 h2
        go_wp2_with fail
        go_roundw
        case rel => exact ⟨iv - 1, a', m', x', bb', wd', wt', il', rt', dr', rfl, ⟨by omega, by omega⟩, H2.out, b6.out, bR6.out, D6.out⟩
        case measure => simp [intOf]; omega
      by_cases k2 : k = 2
      · subst k2
        go_wp2_with fail
        refine (sRdy _ _ _ _ _ _ _ _ _ _).mono ?_
        rintro e w6 ⟨rfl, h6⟩
        have D7 := Lib.hid (D5.out.ext h6)
        have b7 := Lib.hid (ext_blk h6 b5.out)
        have bR7 := Lib.hid (ext_blk h6 bR5.out)
        clear p0 p1 p2 p3 p4 p5 p6 p7 p8 x2 x3
        clear h6 D5 b5 bR5
        obtain ⟨x1, x2, x3⟩ := blk_cells b7.out
        have p0 := x1 0
        have p1 := x1 1
        have p2 := x1 2
        have p3 := x1 3
        have p4 := x1 4
        have p5 := x1 5
        have p6 := x1 6
        have p7 := x1 7
        have p8 := x1 8
        simp at p0 p1 p2 p3 p4 p5 p6 p7 p8
        clear x1
        cases hrd : rdyB a m x bb wd wt il rt dr with
        | true =>
          go_wp2_with fail
          refine C.wp_region_chain (R := relC b) 4 (by kernel_rfl) (by kernel_rfl) ?_
          simp only [List.take_succ_cons, List.take_zero, List.drop_succ_cons, List.drop_zero]
          (apply C.Chain.quiet (R := relC b); · (intro vs wq hEq hd; have b5 := XC.blk hEq b7.out (by omega); obtain ⟨c1, c2, c3⟩ := blk_cells b5; have e0 := c1 0; have e1 := c1 1; have e2 := c1 2; have e3 := c1 3; have e4 := c1 4; have e5 := c1 5; have e6 := c1 6; have e7 := c1 7; have e8 := c1 8; simp at e0 e1 e2 e3 e4 e5 e6 e7 e8; clear b5 c1 hEq hd; (try simp only [Act.put, C.SP.pick, C.SP.is, SPC.val, SPC.ints, id_eq, List.take_succ_cons, List.take_zero, List.drop_succ_cons, List.drop_zero, List.setIfInBounds_toArray, List.set_cons_zero, List.set_cons_succ]); refine C.growOp_go (R := relC b) ?_; go_simp; exact ⟨C.Ext.refl (R := relC b) _, rfl⟩))
          (apply C.Chain.quiet (R := relC b); · (intro vs wq hEq hd; clear hEq hd; (try simp only [Act.put, C.SP.pick, C.SP.is, SPC.val, SPC.ints, id_eq, List.take_succ_cons, List.take_zero, List.drop_succ_cons, List.drop_zero, List.setIfInBounds_toArray, List.set_cons_zero, List.set_cons_succ]); refine C.growOp_go (R := relC b) ?_; go_simp; exact ⟨C.Ext.refl (R := relC b) _, rfl⟩))
          refine C.Chain.sp (R := relC b) (SPC.val b IntP) ?_ ?_
          · intro vs wq hEq hd
            have hC := Lib.hid (XC.cur hEq D7.out.2)
            clear hd hEq
            (try simp only [Act.put, C.SP.pick, C.SP.is, SPC.val, SPC.ints, id_eq, List.take_succ_cons, List.take_zero, List.drop_succ_cons, List.drop_zero, List.setIfInBounds_toArray, List.set_cons_zero, List.set_cons_succ])
            refine C.growOp_go (R := relC b) ?_
            go_simp
            refine (sBelow _ _ _ hC.out (by decide)).mono ?_
            rintro e w6 ⟨f, rfl, hf, hD⟩
            exact ⟨_, rfl, XC.of_drawn hD, f, rfl⟩
          refine C.Chain.sp (R := relC b) (SPC.val b BakP) ?_ ?_
          · intro vs wq hEq hd
            obtain ⟨f, e7⟩ := hd 2 (by kernel_rfl)
            clear hd hEq
            simp only [Act.put, C.SP.pick, C.SP.is, SPC.val, SPC.ints, id_eq, List.take_succ_cons, List.take_zero, List.drop_succ_cons, List.drop_zero, List.setIfInBounds_toArray, List.set_cons_zero, List.set_cons_succ]
            rw [e7]
            refine C.growOp_go (R := relC b) ?_
            clear e7
            go_simp
            refine (sSuc a m x bb wd wt il rt dr f _ rfl _).mono ?_
            rintro e w6 ⟨rfl, hb⟩
            exact ⟨_, rfl, XC.of_ext hb, _, _, _, _, _, _, _, _, _, rfl, bds_suc HB.out⟩
          refine C.Chain.done (R := relC b) ?_
          intro vs w6 hE6 hd6
          simp only [Act.put, C.SP.pick, C.SP.is, SPC.val, SPC.ints, id_eq, List.take_succ_cons, List.take_zero, List.drop_succ_cons, List.drop_zero, List.setIfInBounds_toArray, List.set_cons_zero, List.set_cons_succ]
          obtain ⟨a', m', x', bb', wd', wt', il', rt', dr', e3, hB'⟩ := hd6 3
          rw [e3]
          have D6 := Lib.hid (Drawn.trans D7.out (XC.drawn hE6 D7.out.2))
          have b6 := Lib.hid (XC.blk hE6 b7.out (by omega))
          have bR6 := Lib.hid (XC.blk hE6 bR7.out hneR)
          have HB' := Lib.hid hB'
          clear p0 p1 p2 p3 p4 p5 p6 p7 p8 x2 x3
          clear hd6 hE6 e3 D7 b7 bR7 hB' HB
          obtain ⟨x1, x2, x3⟩ := blk_cells b6.out
          have p0 := x1 0
          have p1 := x1 1
          have p2 := x1 2
          have p3 := x1 3
          have p4 := x1 4
          have p5 := x1 5
          have p6 := x1 6
          have p7 := x1 7
          have p8 := x1 8
          simp at p0 p1 p2 p3 p4 p5 p6 p7 p8
          clear x1
          go_wp2_with fail
          go_roundw
          case rel => exact ⟨iv - 1, a', m', x', bb', wd', wt', il', rt', dr', rfl, ⟨by omega, by omega⟩, HB'.out, put9_blk b6.out, put9_oth bR6.out (by omega), put9_drawn D6.out (by omega) hgb⟩
          case measure => simp [intOf]; omega
        | false =>
          go_wp2_with fail
          go_roundw
          case rel => exact ⟨iv - 1, a, m, x, bb, wd, wt, il, rt, dr, rfl, ⟨by omega, by omega⟩, HB.out, b7.out, bR7.out, D7.out⟩
          case measure => simp [intOf]; omega
      · go_wp2_with fail
        refine (sTick _ _ _ _ _ _ _ _ _ false _).mono ?_
        rintro e w6 ⟨rfl, h6⟩
        have D6 := Lib.hid (D5.out.ext h6)
        have b6 := Lib.hid (ext_blk h6 b5.out)
        have bR6 := Lib.hid (ext_blk h6 bR5.out)
        clear p0 p1 p2 p3 p4 p5 p6 p7 p8 x2 x3
        clear h6 D5 b5 bR5
        obtain ⟨x1, x2, x3⟩ := blk_cells b6.out
        have p0 := x1 0
        have p1 := x1 1
        have p2 := x1 2
        have p3 := x1 3
        have p4 := x1 4
        have p5 := x1 5
        have p6 := x1 6
        have p7 := x1 7
        have p8 := x1 8
        simp at p0 p1 p2 p3 p4 p5 p6 p7 p8
        clear x1
        go_wp2_with fail
        go_roundw
        case rel => exact ⟨iv - 1, a, m, x, bb, wd, _, _, rt, dr, rfl, ⟨by omega, by omega⟩, bds_tick HB.out _ _, put9_blk b6.out, put9_oth bR6.out (by omega), put9_drawn D6.out (by omega) hgb⟩
        case measure => simp [intOf]; omega
    · have hz0 := h0
      obtain ⟨x1, x2, x3⟩ := blk_cells HG.out
      have p0 := x1 0
      have p1 := x1 1
      have p2 := x1 2
      have p3 := x1 3
      have p4 := x1 4
      have p5 := x1 5
      have p6 := x1 6
      have p7 := x1 7
      have p8 := x1 8
      simp at p0 p1 p2 p3 p4 p5 p6 p7 p8
      clear x1
      obtain ⟨y1, y2, y3⟩ := blk_cells HR.out
      have q0 := y1 0
      have q1 := y1 1
      have q2 := y1 2
      have q3 := y1 3
      have q4 := y1 4
      have q5 := y1 5
      have q6 := y1 6
      have q7 := y1 7
      have q8 := y1 8
      simp at q0 q1 q2 q3 q4 q5 q6 q7 q8
      clear y1
      go_wp2_with fail
      refine bodyPost_ret (v := .agg #[.int .i64 a, .int .i64 m, .int .i64 x, .int .i64 bb, .int .i64 wd, .int .i64 wt, .int .i64 il, .int .i64 rt, .int .i64 dr]) (by clear HB HG HR HD; simp [results, Try.results142, go_sem, *]) rfl ⟨a, m, x, bb, wd, wt, il, rt, dr, rfl, HB.out, ?_⟩
      exact put9_drawn HD.out (Nat.le_refl _) (by omega)
end Go.Proofs.Ytkmklafjcjkpdaa
