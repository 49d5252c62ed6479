/- The law on the countdown of a waiting time. -/
import Derived.Test.YtkmklafjcjkpdaaBkE
namespace Go.Proofs.Ytkmklafjcjkpdaa
open Go.RowKit
set_option linter.unusedVariables false
set_option linter.unusedSimpArgs false
/-- A backoff after some idle slots. -/
def cdI (a il : Int) (k : Nat) : Int := min a (il + k)
def cdW (a il wt : Int) (k : Nat) : Int := min wt (wt + (a - il) - k)
theorem bk_at {a m x b wd wt il rt dr wt' il' : Int} (h : bkB a m x b wd wt il rt dr = true) (h1 : 0 ≤ wt' ∧ wt' ≤ wd) (h2 : 0 ≤ il' ∧ il' ≤ a) : bkB a m x b wd wt' il' rt dr = true := by
  obtain ⟨g1, g2, g3, g4, g5, g6⟩ := bkB_true h
  unfold bkB
  rw [g1, g2, g5, g6, inB_mk h1.1 h1.2, inB_mk h2.1 h2.2]
  rfl
theorem bk_cd {a m x b wd wt il rt dr : Int} (h : bkB a m x b wd wt il rt dr = true) (k : Nat) (hk : (k : Int) ≤ a - il + wt) : bkB a m x b wd (cdW a il wt k) (cdI a il k) rt dr = true := by
  obtain ⟨a1, a2, m1, m2, d1, d2, t1, t2, i1, i2, r1, r2, g1, g2⟩ := bk_bd h
  refine bk_at h ?_ ?_
  · unfold cdW
    omega
  · unfold cdI
    omega
theorem cd_step {a il wt : Int} (h1 : il ≤ a) (h2 : 0 ≤ wt) (k : Nat) (hk : (k : Int) < a - il + wt) : tkI true false a (cdI a il k) = cdI a il (k + 1) ∧ tkW true false a (cdI a il k) (cdW a il wt k) = cdW a il wt (k + 1) := by
  unfold tkI tkW cdI cdW
  constructor
  · simp only [if_true, Bool.false_eq_true, if_false]
    split <;> omega
  · simp only [Bool.not_false, Bool.true_and, Bool.and_eq_true, Bool.not_eq_true', decide_eq_false_iff_not, decide_eq_true_eq]
    split <;> omega
theorem cd_rdy {a m x b wd wt il rt dr : Int} (h : bkB a m x b wd wt il rt dr = true) (k : Nat) (hk : (k : Int) ≤ a - il + wt) : rdyB a m x b wd (cdW a il wt k) (cdI a il k) rt dr = decide ((k : Int) = a - il + wt) := by
  obtain ⟨a1, a2, m1, m2, d1, d2, t1, t2, i1, i2, r1, r2, g1, g2⟩ := bk_bd h
  unfold rdyB
  rw [bk_cd h k hk, Bool.eq_iff_iff]
  simp only [Bool.true_and, Bool.and_eq_true, beq_iff_eq, decide_eq_true_eq]
  unfold cdW cdI
  omega
theorem cd_slot {a m x b wd wt il rt dr : Int} (h : bkB a m x b wd wt il rt dr = true) (k : Nat) (hk : (k : Int) = a - il + wt) : slotV a m x b wd (cdW a il wt k) (cdI a il k) rt dr = 0 := by
  obtain ⟨a1, a2, m1, m2, d1, d2, t1, t2, i1, i2, r1, r2, g1, g2⟩ := bk_bd h
  unfold slotV
  rw [bk_cd h k (by omega)]
  simp only [if_true]
  unfold cdW cdI
  omega
theorem slot_no {a m x b wd wt il rt dr : Int} (h : bkB a m x b wd wt il rt dr = false) : slotV a m x b wd wt il rt dr = -1 := by
  unfold slotV
  rw [h]
  rfl
theorem slot_yes {a m x b wd wt il rt dr : Int} (h : bkB a m x b wd wt il rt dr = true) : slotV a m x b wd wt il rt dr = a - il + wt := by
  unfold slotV
  rw [h]
  rfl
theorem rdy_no {a m x b wd wt il rt dr : Int} (h : bkB a m x b wd wt il rt dr = false) : rdyB a m x b wd wt il rt dr = false := by
  unfold rdyB
  rw [h]
  rfl
set_option maxHeartbeats 4000000 in
theorem walk_FnCountdown (a0 : Option Addr) (n0 c0 : Nat) (w : World) (r0 : Rd Try.prog w 22 [.slice a0 n0 c0]) :
    Calls Try.prog 3 #[.slice a0 n0 c0] w fun e w' => e = .returned (.bool true) ∧ Below w.heap.size w w' := by
  obtain ⟨l, hn, hr, hb, hm⟩ := view_code r0
  clear r0
  by_cases hbig : (1048576 : Int) < n0
  · go_enter Try.func3, Try.ntmps3
    go_wp2_with fail
    refine (big_ _ _ _ _ hm).mono ?_
    rintro e w' ⟨rfl, rfl⟩
    rw [decide_eq_true hbig]
    go_wp2_with fail
    go_ret
    exact ⟨rfl, Below.refl _ _⟩
  · go_enter Try.func3, Try.ntmps3
    go_wp2_with fail
    refine (big_ _ _ _ _ hm).mono ?_
    rintro e w' ⟨rfl, rfl⟩
    rw [decide_eq_false (by omega)]
    go_wp2_with fail
    refine (sDrawBk _ _ _ _ l hn hr hb (by omega)).mono ?_
    rintro e w1 ⟨a, m, x, bb, wd, wt, il, rt, dr, rfl, hB, hE⟩
    have e1 := Ext.alloc_ w1 (.cells #[.int .i64 a, .int .i64 m, .int .i64 x, .int .i64 bb, .int .i64 wd, .int .i64 wt, .int .i64 il, .int .i64 rt, .int .i64 dr] 27)
    have E1 := Lib.hid (Ext.trans hE e1)
    have b1 := Lib.hid (new_blk1 w1 #[.int .i64 a, .int .i64 m, .int .i64 x, .int .i64 bb, .int .i64 wd, .int .i64 wt, .int .i64 il, .int .i64 rt, .int .i64 dr] 27)
    have hz0 := hE.size
    clear hn hr hb hm hbig hE e1 hB
    go_wp2_with fail
    refine (iSlot _ _ _ _ _ _ _ _ _ _).mono ?_
    rintro e w2 ⟨rfl, h2⟩
    have E2 := Lib.hid (Ext.trans E1.out h2)
    have b2 := Lib.hid (ext_blk h2 b1.out)
    clear h2 E1 b1
    obtain ⟨x1, x2, x3⟩ := blk_cells b2.out
    have p0 := x1 0
    have p1 := x1 1
    have p2 := x1 2
    have p3 := x1 3
    have p4 := x1 4
    have p5 := x1 5
    have p6 := x1 6
    have p7 := x1 7
    have p8 := x1 8
    simp at p0 p1 p2 p3 p4 p5 p6 p7 p8
    clear x1
    go_wp2_with fail
    refine (sBkOk _ _ _ _ _ _ _ _ _ _).mono ?_
    rintro e w3 ⟨rfl, h3⟩
    have E3 := Lib.hid (Ext.trans E2.out h3)
    have b3 := Lib.hid (ext_blk h3 b2.out)
    clear p0 p1 p2 p3 p4 p5 p6 p7 p8 x2 x3
    clear h3 E2 b2
    obtain ⟨x1, x2, x3⟩ := blk_cells b3.out
    have p0 := x1 0
    have p1 := x1 1
    have p2 := x1 2
    have p3 := x1 3
    have p4 := x1 4
    have p5 := x1 5
    have p6 := x1 6
    have p7 := x1 7
    have p8 := x1 8
    simp at p0 p1 p2 p3 p4 p5 p6 p7 p8
    clear x1
    generalize w1.heap.size = g at *
    cases hok : bkB a m x bb wd wt il rt dr with
    | false =>
      rw [slot_no hok]
      have HOK := Lib.hid hok
      have HT := Lib.hid (show tkW (bkB a m x bb wd wt il rt dr) false a il wt = wt ∧ tkI (bkB a m x bb wd wt il rt dr) false a il = il by rw [hok]; exact ⟨by simp [tkW], by simp [tkI]⟩)
      clear hok
      go_wp2_with fail
      refine wp_region_chain 14 (by kernel_rfl) (by kernel_rfl) ?_
      simp only [List.take_succ_cons, List.take_zero, List.drop_succ_cons, List.drop_zero]
      iterate 4 (apply Chain.quiet; · (intro vs wq hEq hd; obtain ⟨hcq, hfq⟩ := bcell hEq; clear hEq hd; (try simp only [Act.put, SP.pick, SP.is, SP.box, id_eq, List.take_succ_cons, List.take_zero, List.drop_succ_cons, List.drop_zero, List.setIfInBounds_toArray, List.set_cons_zero, List.set_cons_succ]); refine growOp_go ?_; go_simp; first | exact ⟨Ext.refl _, rfl⟩ | exact rfl | (split; (exfalso; omega); (first | exact ⟨Ext.refl _, rfl⟩ | exact rfl)) | (split; (first | exact ⟨Ext.refl _, rfl⟩ | exact rfl); (exfalso; omega))))
      repeat (first | (apply Chain.quiet; · (intro vs wq hEq hd; obtain ⟨hcq, hfq⟩ := bcell hEq; clear hEq hd; (try simp only [Act.put, SP.pick, SP.is, SP.box, id_eq, List.take_succ_cons, List.take_zero, List.drop_succ_cons, List.drop_zero, List.setIfInBounds_toArray, List.set_cons_zero, List.set_cons_succ]); refine growOp_go ?_; go_simp; first | exact ⟨Ext.refl _, rfl⟩ | exact rfl | (split; (exfalso; omega); (first | exact ⟨Ext.refl _, rfl⟩ | exact rfl)) | (split; (first | exact ⟨Ext.refl _, rfl⟩ | exact rfl); (exfalso; omega)))) | (apply Chain.quiet; · (intro vs wq hEq hd; obtain ⟨hcq, hfq⟩ := bcell hEq; clear hEq hd; (try simp only [Act.put, SP.pick, SP.is, SP.box, id_eq, List.take_succ_cons, List.take_zero, List.drop_succ_cons, List.drop_zero, List.setIfInBounds_toArray, List.set_cons_zero, List.set_cons_succ]); refine growOp_go ?_; go_simp; refine (iTick _ _ _ _ _ _ _ _ _ false _).mono ?_; rintro e w5 ⟨rfl, hb⟩; rw [HT.out.1, HT.out.2]; first | exact ⟨rfl, hb⟩ | exact ⟨_, rfl, hb, rfl⟩)) | (apply Chain.quiet; · (intro vs wq hEq hd; obtain ⟨hcq, hfq⟩ := bcell hEq; clear hEq hd; (try simp only [Act.put, SP.pick, SP.is, SP.box, id_eq, List.take_succ_cons, List.take_zero, List.drop_succ_cons, List.drop_zero, List.setIfInBounds_toArray, List.set_cons_zero, List.set_cons_succ]); refine growOp_go ?_; go_simp; refine (iRdy _ _ _ _ _ _ _ _ _ _).mono ?_; rintro e w5 ⟨rfl, hb⟩; rw [rdy_no HOK.out]; first | exact ⟨rfl, hb⟩ | exact ⟨_, rfl, hb, rfl⟩)))
      refine Chain.done ?_
      intro vs w4 hE4 hd4
      simp only [Act.put, SP.pick, SP.is, SP.box, id_eq, List.take_succ_cons, List.take_zero, List.drop_succ_cons, List.drop_zero, List.setIfInBounds_toArray, List.set_cons_zero, List.set_cons_succ]
      clear hd4
      have E4 := Lib.hid (Ext.trans E3.out hE4)
      clear hE4
      go_wp2_with fail
      go_ret
      exact ⟨rfl, E4.out⟩
    | true =>
      rw [slot_yes hok]
      obtain ⟨a1, a2, m1, m2, d1, d2, t1, t2, i1, i2, r1, r2, g1, g2⟩ := bk_bd hok
      have HOK := Lib.hid hok
      clear hok
      go_wp2_with fail
      have b5 := Lib.hid (new_blk1 w3 #[.int .i64 a, .int .i64 m, .int .i64 x, .int .i64 bb, .int .i64 wd, .int .i64 wt, .int .i64 il, .int .i64 rt, .int .i64 dr] 27)
      have b4 := Lib.hid (ext_blk (Ext.alloc_ w3 (.cells #[.int .i64 a, .int .i64 m, .int .i64 x, .int .i64 bb, .int .i64 wd, .int .i64 wt, .int .i64 il, .int .i64 rt, .int .i64 dr] 27)) b3.out)
      have E4 := Lib.hid (Ext.trans E3.out (Ext.alloc_ w3 (.cells #[.int .i64 a, .int .i64 m, .int .i64 x, .int .i64 bb, .int .i64 wd, .int .i64 wt, .int .i64 il, .int .i64 rt, .int .i64 dr] 27)))
      have hg5 : w.heap.size ≤ w3.heap.size := E3.out.size
      have hgg : g < w3.heap.size := heap_lt b3.out
      clear p0 p1 p2 p3 p4 p5 p6 p7 p8 x2 x3
      clear E3 b3
      generalize w3.heap.size = g5 at *
      go_loopw [6] (fun i wr => ∃ k : Nat, (k : Int) ≤ a - il + wt ∧ i = .int .i64 k ∧ wr.heap[g]? = some (.cells #[.int .i64 a, .int .i64 m, .int .i64 x, .int .i64 bb, .int .i64 wd, .int .i64 wt, .int .i64 il, .int .i64 rt, .int .i64 dr] 27 (0, 0)) ∧ wr.heap[g5]? = some (.cells #[.int .i64 a, .int .i64 m, .int .i64 x, .int .i64 bb, .int .i64 wd, .int .i64 (cdW a il wt k), .int .i64 (cdI a il k), .int .i64 rt, .int .i64 dr] 27 (0, 0)) ∧ Hid (Ext w wr)) (fun i _ => (a - il + wt - intOf i).toNat)
      case atStart =>
        refine ⟨0, by omega, rfl, b4.out, ?_, E4⟩
        rw [show cdW a il wt 0 = wt from by unfold cdW; omega, show cdI a il 0 = il from by unfold cdI; omega]
        exact b5.out
      case round =>
        clear b4 b5 E4
        obtain ⟨k, hk, rfl, hb3, hb5, hE⟩ := hrel
        have b3 := Lib.hid hb3
        have b5 := Lib.hid hb5
        clear hb3 hb5
        obtain ⟨W, hW⟩ : ∃ W, W = cdW a il wt k := ⟨_, rfl⟩
        obtain ⟨I, hI⟩ : ∃ I, I = cdI a il k := ⟨_, rfl⟩
        have HW := Lib.hid hW
        have HI := Lib.hid hI
        rw [← hW, ← hI] at b5
        clear hW hI
        by_cases hlt : (k : Int) < a - il + wt
        · have hR := Lib.hid (show rdyB a m x bb wd W I rt dr = false by rw [HW.out, HI.out, cd_rdy HOK.out k hk]; exact decide_eq_false (by omega))
          have hV := Lib.hid (show bkB a m x bb wd W I rt dr = true by rw [HW.out, HI.out]; exact bk_cd HOK.out k hk)
          obtain ⟨s1, s2⟩ := cd_step (a := a) i2 t1 k hlt
          rw [← HI.out] at s1 s2
          rw [← HW.out] at s2
          have S1 := Lib.hid s1
          have S2 := Lib.hid s2
          clear s1 s2
          obtain ⟨x1, x2, x3⟩ := blk_cells b5.out
          have p0 := x1 0
          have p1 := x1 1
          have p2 := x1 2
          have p3 := x1 3
          have p4 := x1 4
          have p5 := x1 5
          have p6 := x1 6
          have p7 := x1 7
          have p8 := x1 8
          simp at p0 p1 p2 p3 p4 p5 p6 p7 p8
          clear x1
          go_wp2_with fail
          refine (iRdy _ _ _ _ _ _ _ _ _ _).mono ?_
          rintro e w5 ⟨rfl, h5⟩
          rw [hR.out]
          have E5 := Lib.hid (Ext.trans hE.out h5)
          have b3' := Lib.hid (ext_blk h5 b3.out)
          have b5' := Lib.hid (ext_blk h5 b5.out)
          clear p0 p1 p2 p3 p4 p5 p6 p7 p8 x2 x3
          clear h5 hE b3 b5
          obtain ⟨x1, x2, x3⟩ := blk_cells b5'.out
          have p0 := x1 0
          have p1 := x1 1
          have p2 := x1 2
          have p3 := x1 3
          have p4 := x1 4
          have p5 := x1 5
          have p6 := x1 6
          have p7 := x1 7
          have p8 := x1 8
          simp at p0 p1 p2 p3 p4 p5 p6 p7 p8
          clear x1
          go_wp2_with fail
          refine (iBkOk _ _ _ _ _ _ _ _ _ _).mono ?_
          rintro e w6 ⟨rfl, h6⟩
          rw [hV.out]
          have E6 := Lib.hid (Ext.trans E5.out h6)
          have b3 := Lib.hid (ext_blk h6 b3'.out)
          have b5 := Lib.hid (ext_blk h6 b5'.out)
          clear p0 p1 p2 p3 p4 p5 p6 p7 p8 x2 x3
          clear h6 E5 b3' b5'
          obtain ⟨x1, x2, x3⟩ := blk_cells b5.out
          have p0 := x1 0
          have p1 := x1 1
          have p2 := x1 2
          have p3 := x1 3
          have p4 := x1 4
          have p5 := x1 5
          have p6 := x1 6
          have p7 := x1 7
          have p8 := x1 8
          simp at p0 p1 p2 p3 p4 p5 p6 p7 p8
          clear x1
          go_wp2_with fail
          refine (iTick _ _ _ _ _ _ _ _ _ false _).mono ?_
          rintro e w7 ⟨rfl, h7⟩
          rw [hV.out, S1.out, S2.out]
          have E7 := Lib.hid (Ext.trans E6.out h7)
          have b3' := Lib.hid (ext_blk h7 b3.out)
          have b5' := Lib.hid (ext_blk h7 b5.out)
          clear p0 p1 p2 p3 p4 p5 p6 p7 p8 x2 x3
          clear h7 E6 b3 b5
          obtain ⟨x1, x2, x3⟩ := blk_cells b5'.out
          have p0 := x1 0
          have p1 := x1 1
          have p2 := x1 2
          have p3 := x1 3
          have p4 := x1 4
          have p5 := x1 5
          have p6 := x1 6
          have p7 := x1 7
          have p8 := x1 8
          simp at p0 p1 p2 p3 p4 p5 p6 p7 p8
          clear x1
          go_wp2_with fail
          go_roundw
          case rel => exact ⟨k + 1, by omega, by go_num, put9_oth b3'.out (by omega), put9_blk b5'.out, Lib.hid (put9_ext E7.out hg5)⟩
          case measure => simp [intOf]; omega
        · have hkk : (k : Int) = a - il + wt := by omega
          have hR := Lib.hid (show rdyB a m x bb wd W I rt dr = true by rw [HW.out, HI.out, cd_rdy HOK.out k hk]; exact decide_eq_true hkk)
          have hS := Lib.hid (show slotV a m x bb wd W I rt dr = 0 by rw [HW.out, HI.out, cd_slot HOK.out k hkk])
          have hY := Lib.hid (show slotV a m x bb wd wt 0 rt dr = a + wt by rw [slot_yes (bk_at HOK.out ⟨t1, t2⟩ ⟨by omega, by omega⟩)]; omega)
          have hT1 : tkI true true a il = 0 := rfl
          have hT2 : tkW true true a il wt = wt := by simp [tkW]
          obtain ⟨x1, x2, x3⟩ := blk_cells b3.out
          have p0 := x1 0
          have p1 := x1 1
          have p2 := x1 2
          have p3 := x1 3
          have p4 := x1 4
          have p5 := x1 5
          have p6 := x1 6
          have p7 := x1 7
          have p8 := x1 8
          simp at p0 p1 p2 p3 p4 p5 p6 p7 p8
          clear x1
          go_wp2_with fail
          refine (iTick _ _ _ _ _ _ _ _ _ true _).mono ?_
          rintro e w7 ⟨rfl, h7⟩
          rw [HOK.out, hT1, hT2]
          have e8 := Ext.alloc_ w7 (.cells #[.int .i64 a, .int .i64 m, .int .i64 x, .int .i64 bb, .int .i64 wd, .int .i64 wt, .int .i64 0, .int .i64 rt, .int .i64 dr] 27)
          have E7 := Lib.hid (Ext.trans hE.out (Ext.trans h7 e8))
          have b3' := Lib.hid (ext_blk (Ext.trans h7 e8) b3.out)
          have b5' := Lib.hid (ext_blk (Ext.trans h7 e8) b5.out)
          have b7 := Lib.hid (new_blk1 w7 #[.int .i64 a, .int .i64 m, .int .i64 x, .int .i64 bb, .int .i64 wd, .int .i64 wt, .int .i64 0, .int .i64 rt, .int .i64 dr] 27)
          clear p0 p1 p2 p3 p4 p5 p6 p7 p8 x2 x3
          clear h7 hE b3 b5 e8 hT1 hT2
          obtain ⟨x1, x2, x3⟩ := blk_cells b3'.out
          have p0 := x1 0
          have p1 := x1 1
          have p2 := x1 2
          have p3 := x1 3
          have p4 := x1 4
          have p5 := x1 5
          have p6 := x1 6
          have p7 := x1 7
          have p8 := x1 8
          simp at p0 p1 p2 p3 p4 p5 p6 p7 p8
          clear x1
          obtain ⟨y1, y2, y3⟩ := blk_cells b5'.out
          have q0 := y1 0
          have q1 := y1 1
          have q2 := y1 2
          have q3 := y1 3
          have q4 := y1 4
          have q5 := y1 5
          have q6 := y1 6
          have q7 := y1 7
          have q8 := y1 8
          simp at q0 q1 q2 q3 q4 q5 q6 q7 q8
          clear y1
          have hwr : IntKind.i64.wrap (a + wt) = a + wt := IntWalk.i64_in _ (by omega)
          go_wp2_with fail
          generalize World.alloc w7 _ = w8 at *
          generalize w7.heap.size = g7 at *
          obtain ⟨z1, z2, z3⟩ := blk_cells b7.out
          have o0 := z1 0
          have o1 := z1 1
          have o2 := z1 2
          have o3 := z1 3
          have o4 := z1 4
          have o5 := z1 5
          have o6 := z1 6
          have o7 := z1 7
          have o8 := z1 8
          simp at o0 o1 o2 o3 o4 o5 o6 o7 o8
          clear z1
          refine wp_region_chain 26 (by kernel_rfl) (by kernel_rfl) ?_
          simp only [List.take_succ_cons, List.take_zero, List.drop_succ_cons, List.drop_zero]
          repeat (first | (apply Chain.quiet; · (intro vs wq hEq hd; obtain ⟨hcq, hfq⟩ := bcell hEq; clear hEq hd; (try simp only [Act.put, SP.pick, SP.is, SP.box, id_eq, List.take_succ_cons, List.take_zero, List.drop_succ_cons, List.drop_zero, List.setIfInBounds_toArray, List.set_cons_zero, List.set_cons_succ]); refine growOp_go ?_; go_simp; first | exact ⟨Ext.refl _, rfl⟩ | exact rfl | (split; (exfalso; omega); (first | exact ⟨Ext.refl _, rfl⟩ | exact rfl)) | (split; (first | exact ⟨Ext.refl _, rfl⟩ | exact rfl); (exfalso; omega)))) | (apply Chain.quiet; · (intro vs wq hEq hd; obtain ⟨hcq, hfq⟩ := bcell hEq; clear hEq hd; (try simp only [Act.put, SP.pick, SP.is, SP.box, id_eq, List.take_succ_cons, List.take_zero, List.drop_succ_cons, List.drop_zero, List.setIfInBounds_toArray, List.set_cons_zero, List.set_cons_succ]); refine growOp_go ?_; go_simp; refine (iRdy _ _ _ _ _ _ _ _ _ _).mono ?_; rintro e w5 ⟨rfl, hb⟩; rw [hR.out]; first | exact ⟨rfl, hb⟩ | exact ⟨_, rfl, hb, rfl⟩)) | (apply Chain.quiet; · (intro vs wq hEq hd; obtain ⟨hcq, hfq⟩ := bcell hEq; clear hEq hd; (try simp only [Act.put, SP.pick, SP.is, SP.box, id_eq, List.take_succ_cons, List.take_zero, List.drop_succ_cons, List.drop_zero, List.setIfInBounds_toArray, List.set_cons_zero, List.set_cons_succ]); refine growOp_go ?_; go_simp; refine (iSlot _ _ _ _ _ _ _ _ _ _).mono ?_; rintro e w5 ⟨rfl, hb⟩; rw [hY.out]; first | exact ⟨rfl, hb⟩ | exact ⟨_, rfl, hb, rfl⟩)) | (apply Chain.quiet; · (intro vs wq hEq hd; obtain ⟨hcq, hfq⟩ := bcell hEq; clear hEq hd; (try simp only [Act.put, SP.pick, SP.is, SP.box, id_eq, List.take_succ_cons, List.take_zero, List.drop_succ_cons, List.drop_zero, List.setIfInBounds_toArray, List.set_cons_zero, List.set_cons_succ]); refine growOp_go ?_; go_simp; refine (iSlot _ _ _ _ _ _ _ _ _ _).mono ?_; rintro e w5 ⟨rfl, hb⟩; rw [hS.out]; first | exact ⟨rfl, hb⟩ | exact ⟨_, rfl, hb, rfl⟩)))
          refine Chain.done ?_
          intro vs w9 hE9 hd9
          simp only [Act.put, SP.pick, SP.is, SP.box, id_eq, List.take_succ_cons, List.take_zero, List.drop_succ_cons, List.drop_zero, List.setIfInBounds_toArray, List.set_cons_zero, List.set_cons_succ]
          clear hd9
          have E8 := Lib.hid (Ext.trans E7.out hE9)
          clear hE9
          go_wp2_with fail
          go_ret
          exact ⟨rfl, E8.out⟩
end Go.Proofs.Ytkmklafjcjkpdaa
