/- The law on access parameters. -/
import Derived.Test.YtkmklafjcjkpdaaDpar
import Derived.Test.YtkmklafjcjkpdaaG6
import Derived.Test.YtkmklafjcjkpdaaG11
import Derived.Deep.DeepCutAuto
namespace Go.Proofs.Ytkmklafjcjkpdaa
open Go.RowKit
set_option linter.unusedVariables false
set_option linter.unusedSimpArgs false
theorem wafN_low {m x : Int} (h1 : 1 ≤ m) (h2 : m ≤ x) : ∀ k : Nat, min ((2 ^ k : Nat) : Int) x ≤ wafN m x k
  | 0 => by
    have := wafN_bd h1 h2 0
    simp only [wafN] at this ⊢
    omega
  | k + 1 => by
    have h3 := wafN_low h1 h2 k
    have h4 := wafN_bd h1 h2 k
    have h5 : (2 ^ (k + 1) : Nat) = 2 * 2 ^ k := by rw [Nat.pow_succ]; omega
    rw [wafN_succ, h5]
    omega
theorem wafV_20 {a m x b : Int} (h : parB a m x b = true) : wafV a m x b 20 = x := by
  obtain ⟨a1, a2, m1, m2, x1, x2, mx⟩ := parB_bd h
  have h1 := wafN_low m1 mx 20
  have h2 := wafN_bd m1 mx 20
  have e1 : wafV a m x b 20 = wafN m x 20 := by simp [wafV, h]
  rw [e1]
  have : ((2 ^ 20 : Nat) : Int) = 1048576 := by decide
  omega
theorem wafV_0 {a m x b : Int} (h : parB a m x b = true) : wafV a m x b 0 = m := by
  simp only [wafV, h, if_true]
  rfl
theorem wafV_bd {a m x b : Int} (h : parB a m x b = true) (f : Int) : m ≤ wafV a m x b f ∧ wafV a m x b f ≤ x := by
  obtain ⟨a1, a2, m1, m2, x1, x2, mx⟩ := parB_bd h
  have := wafN_bd m1 mx (min f 20).toNat
  simpa [wafV, h] using this
theorem nextV_ge {a m x b wd : Int} (h : parB a m x b = true) (h1 : m ≤ wd) (h2 : wd ≤ x) : wd ≤ nextV a m x b wd ∧ nextV a m x b wd ≤ x := by
  obtain ⟨a1, a2, m1, m2, x1, x2, mx⟩ := parB_bd h
  simp only [nextV, h, inB_mk h1 h2, if_true]
  omega
theorem wafV_next {a m x b f : Int} (h : parB a m x b = true) (h1 : 0 ≤ f) (h2 : f < 20) : wafV a m x b (f + 1) = nextV a m x b (wafV a m x b f) := by
  have e1 : wafV a m x b f = wafN m x (min f 20).toNat := by simp [wafV, h]
  have e2 : wafV a m x b (f + 1) = wafN m x ((min f 20).toNat + 1) := by
    simp only [wafV, h, if_true]
    congr 1
    omega
  rw [e1, e2, nextV_waf h]
theorem nm0 : ((nameV 0).toList == (nameV 1).toList) = false := by decide +kernel
theorem nm1 : ((nameV 1).toList == (nameV 2).toList) = false := by decide +kernel
theorem nm2 : ((nameV 2).toList == (nameV 3).toList) = false := by decide +kernel
theorem win_a : winL [0, 2, 9, 1] = 2 := by decide
theorem win_b : winL [7] = -1 := by decide
theorem prio_a : prioV 7 = 3 := by decide
theorem prio_b : prioV 8 = -1 := by decide
theorem ml4 : ([0, 2, 9, 1] : List Int).length ≤ 1048576 := by simp
theorem ml1 : ([7] : List Int).length ≤ 1048576 := by simp
theorem cat_next (k : Nat) (h : k < 3) : parB (pfA k) (pfM k) (pfX k) (pfB k) = true ∧ ¬ pfA k < pfA ((k : Int) + 1) ∧ ¬ pfM k < pfM ((k : Int) + 1) ∧ ¬ pfX k < pfX ((k : Int) + 1) ∧ ((nameV k).toList == (nameV ((k : Int) + 1)).toList) = false := by
  have hk : k = 0 ∨ k = 1 ∨ k = 2 := by omega
  rcases hk with rfl | rfl | rfl
  · exact ⟨by decide, by decide, by decide, by decide, nm0⟩
  · exact ⟨by decide, by decide, by decide, by decide, nm1⟩
  · exact ⟨by decide, by decide, by decide, by decide, nm2⟩
set_option maxRecDepth 8000 in
set_option maxHeartbeats 40000000 in
theorem walk_FnAccess (a0 : Option Addr) (n0 c0 : Nat) (w : World) (r0 : Rd Try.prog w 22 [.slice a0 n0 c0]) :
    Calls Try.prog 6 #[.slice a0 n0 c0] w fun e w' => e = .returned (.bool true) ∧ Below w.heap.size w w' := by
  obtain ⟨l, hn, hr, hb, hm⟩ := view_code r0
  clear r0
  by_cases hbig : (1048576 : Int) < n0
  · go_enter Try.func6, Try.ntmps6
    go_wp2_with fail
    refine (big_ _ _ _ _ hm).mono ?_
    rintro e w' ⟨rfl, rfl⟩
    rw [decide_eq_true hbig]
    go_wp2_with fail
    go_ret
    exact ⟨rfl, Below.refl _ _⟩
  · go_enter Try.func6, Try.ntmps6
    go_wp2_with fail
    refine (big_ _ _ _ _ hm).mono ?_
    rintro e w' ⟨rfl, rfl⟩
    rw [decide_eq_false (by omega)]
    go_wp2_with fail
    refine (sDrawWin _ _ _ _ l hn hr hb (by omega)).mono ?_
    rintro e w1 ⟨a, m, x, bb, f, rfl, hq, hf, hE⟩
    have e1 := Ext.alloc_ w1 (.cells #[.int .i64 a, .int .i64 m, .int .i64 x, .int .i64 bb] 25)
    have E1 := Lib.hid (Ext.trans hE e1)
    have b1 := Lib.hid (new_blk1 w1 #[.int .i64 a, .int .i64 m, .int .i64 x, .int .i64 bb] 25)
    clear hn hr hb hm hbig hE e1 hq
    go_wp2_with fail
    refine (iWaf _ _ _ _ _ _).mono ?_
    rintro e w2 ⟨rfl, h2⟩
    have E2 := Lib.hid (Ext.trans E1.out h2)
    have b2 := Lib.hid (ext_blk h2 b1.out)
    clear h2 E1 b1
    obtain ⟨x1, x2, x3⟩ := blk_cells b2.out
    have p0 := x1 0
    have p1 := x1 1
    have p2 := x1 2
    have p3 := x1 3
    simp at p0 p1 p2 p3
    clear x1
    go_wp2_with fail
    refine (sPar _ _ _ _ _).mono ?_
    rintro e w3 ⟨rfl, h3⟩
    have E3 := Lib.hid (Ext.trans E2.out h3)
    have b3 := Lib.hid (ext_blk h3 b2.out)
    clear h3 E2 b2 p0 p1 p2 p3 x2 x3
    obtain ⟨x1, x2, x3⟩ := blk_cells b3.out
    have p0 := x1 0
    have p1 := x1 1
    have p2 := x1 2
    have p3 := x1 3
    simp at p0 p1 p2 p3
    clear x1
    by_cases hp : parB a m x bb = true
    · have hp' := Lib.hid hp
      obtain ⟨hwd1, hwd2⟩ := wafV_bd hp f
      obtain ⟨hnx1, hnx2⟩ := nextV_ge hp hwd1 hwd2
      have hw20 := wafV_20 hp
      have hw0 := wafV_0 hp
      have hwn := Lib.hid (fun h1 h2 => wafV_next (f := f) hp h1 h2)
      rw [hp]
      obtain ⟨hf1, hf2⟩ := hf
      clear hp
      obtain ⟨wd, hwd⟩ : ∃ wd, wd = wafV a m x bb f := ⟨_, rfl⟩
      have hwd' := Lib.hid hwd
      rw [← hwd] at hwd1 hwd2 hnx1 hnx2 ⊢
      rw [← hwd] at hwn
      have g1 : ¬ wd < m := by omega
      have g2 : ¬ x < wd := by omega
      have g3 : ¬ nextV a m x bb wd < wd := by omega
      clear hwd
      go_upto_region 7 with fail
      go_cut [77] from 29 (fun v wx => v = .bool false ∧ Hid (Ext w wx))
      case first =>
        rcases (show f < 0 ∨ (0 ≤ f ∧ f < 20) ∨ 20 ≤ f by omega) with hf0 | ⟨hf0, hf20⟩ | hf20
        · have hdec := Lib.hid (decide_eq_false (show ¬ 0 ≤ f by omega))
          go_wp2_with fail
          refine wp_region_chain 49 (by kernel_rfl) (by kernel_rfl) ?_
          simp only [List.take_succ_cons, List.take_zero, List.drop_succ_cons, List.drop_zero]
          repeat (first | (apply Chain.quiet; · (intro vs wq hEq hd; obtain ⟨hcq, hfq⟩ := bcell hEq; clear hEq hd; (try simp only [Act.put, SP.pick, SP.is, SP.box, id_eq, List.take_succ_cons, List.take_zero, List.drop_succ_cons, List.drop_zero, List.setIfInBounds_toArray, List.set_cons_zero, List.set_cons_succ]); refine growOp_go ?_; go_simp; (try rw [hdec.out]); first | exact ⟨Ext.refl _, rfl⟩ | exact rfl | (split; (exfalso; omega); (first | exact ⟨Ext.refl _, rfl⟩ | exact rfl)) | (split; (first | exact ⟨Ext.refl _, rfl⟩ | exact rfl); (exfalso; omega)))) | (apply Chain.quiet; · (intro vs wq hEq hd; obtain ⟨hcq, hfq⟩ := bcell hEq; clear hEq hd; (try simp only [Act.put, SP.pick, SP.is, SP.box, id_eq, List.take_succ_cons, List.take_zero, List.drop_succ_cons, List.drop_zero, List.setIfInBounds_toArray, List.set_cons_zero, List.set_cons_succ]); refine growOp_go ?_; go_simp; (try rw [if_pos (by omega)]); refine (iWaf _ _ _ _ _ _).mono ?_; rintro e w2 ⟨rfl, hb⟩; first | exact ⟨rfl, hb⟩ | exact ⟨_, rfl, hb, rfl⟩)) | (apply Chain.quiet; · (intro vs wq hEq hd; obtain ⟨hcq, hfq⟩ := bcell hEq; clear hEq hd; (try simp only [Act.put, SP.pick, SP.is, SP.box, id_eq, List.take_succ_cons, List.take_zero, List.drop_succ_cons, List.drop_zero, List.setIfInBounds_toArray, List.set_cons_zero, List.set_cons_succ]); refine growOp_go ?_; go_simp; (try rw [if_pos (by omega)]); refine (iNext _ _ _ _ _ _).mono ?_; rintro e w2 ⟨rfl, hb⟩; first | exact ⟨rfl, hb⟩ | exact ⟨_, rfl, hb, rfl⟩)))
          refine Chain.done ?_
          intro vs w4 hE4 hd4
          simp only [Act.put, SP.pick, SP.is, SP.box, id_eq, List.take_succ_cons, List.take_zero, List.drop_succ_cons, List.drop_zero, List.setIfInBounds_toArray, List.set_cons_zero, List.set_cons_succ]
          clear hd4
          have E4 := Lib.hid (Ext.trans E3.out hE4)
          go_wp2_with fail
          go_meet
          refine ⟨?_, E4⟩
          rw [decide_eq_false (show ¬ wd < m by omega), decide_eq_false (show ¬ x < wd by omega), decide_eq_false (show ¬ nextV a m x bb wd < wd by omega)]
          rfl
        · rw [← hwd'.out] at *
          have g5 := hwn.out hf0 hf20
          go_wp2_with fail
          refine wp_region_chain 49 (by kernel_rfl) (by kernel_rfl) ?_
          simp only [List.take_succ_cons, List.take_zero, List.drop_succ_cons, List.drop_zero]
          repeat (first | (apply Chain.quiet; · (intro vs wq hEq hd; obtain ⟨hcq, hfq⟩ := bcell hEq; clear hEq hd; (try simp only [Act.put, SP.pick, SP.is, SP.box, id_eq, List.take_succ_cons, List.take_zero, List.drop_succ_cons, List.drop_zero, List.setIfInBounds_toArray, List.set_cons_zero, List.set_cons_succ]); refine growOp_go ?_; go_simp; first | exact ⟨Ext.refl _, rfl⟩ | exact rfl | (split; (exfalso; omega); (first | exact ⟨Ext.refl _, rfl⟩ | exact rfl)) | (split; (first | exact ⟨Ext.refl _, rfl⟩ | exact rfl); (exfalso; omega)))) | (apply Chain.quiet; · (intro vs wq hEq hd; obtain ⟨hcq, hfq⟩ := bcell hEq; clear hEq hd; (try simp only [Act.put, SP.pick, SP.is, SP.box, id_eq, List.take_succ_cons, List.take_zero, List.drop_succ_cons, List.drop_zero, List.setIfInBounds_toArray, List.set_cons_zero, List.set_cons_succ]); refine growOp_go ?_; go_simp; (try rw [if_pos (by omega)]); refine (iWaf _ _ _ _ _ _).mono ?_; rintro e w2 ⟨rfl, hb⟩; first | exact ⟨rfl, hb⟩ | exact ⟨_, rfl, hb, rfl⟩)) | (apply Chain.quiet; · (intro vs wq hEq hd; obtain ⟨hcq, hfq⟩ := bcell hEq; clear hEq hd; (try simp only [Act.put, SP.pick, SP.is, SP.box, id_eq, List.take_succ_cons, List.take_zero, List.drop_succ_cons, List.drop_zero, List.setIfInBounds_toArray, List.set_cons_zero, List.set_cons_succ]); refine growOp_go ?_; go_simp; (try rw [if_pos (by omega)]); refine (iNext _ _ _ _ _ _).mono ?_; rintro e w2 ⟨rfl, hb⟩; first | exact ⟨rfl, hb⟩ | exact ⟨_, rfl, hb, rfl⟩)))
          refine Chain.done ?_
          intro vs w4 hE4 hd4
          simp only [Act.put, SP.pick, SP.is, SP.box, id_eq, List.take_succ_cons, List.take_zero, List.drop_succ_cons, List.drop_zero, List.setIfInBounds_toArray, List.set_cons_zero, List.set_cons_succ]
          clear hd4
          have E4 := Lib.hid (Ext.trans E3.out hE4)
          go_wp2_with fail
          go_meet
          refine ⟨?_, E4⟩
          rw [decide_eq_false (show ¬ wd < m by omega), decide_eq_false (show ¬ x < wd by omega), decide_eq_false (show ¬ nextV a m x bb wd < wd by omega), IntWalk.i64_in (f + 1) (by omega), g5]
          simp
        · go_wp2_with fail
          refine wp_region_chain 49 (by kernel_rfl) (by kernel_rfl) ?_
          simp only [List.take_succ_cons, List.take_zero, List.drop_succ_cons, List.drop_zero]
          repeat (first | (apply Chain.quiet; · (intro vs wq hEq hd; obtain ⟨hcq, hfq⟩ := bcell hEq; clear hEq hd; (try simp only [Act.put, SP.pick, SP.is, SP.box, id_eq, List.take_succ_cons, List.take_zero, List.drop_succ_cons, List.drop_zero, List.setIfInBounds_toArray, List.set_cons_zero, List.set_cons_succ]); refine growOp_go ?_; go_simp; first | exact ⟨Ext.refl _, rfl⟩ | exact rfl | (split; (exfalso; omega); (first | exact ⟨Ext.refl _, rfl⟩ | exact rfl)) | (split; (first | exact ⟨Ext.refl _, rfl⟩ | exact rfl); (exfalso; omega)))) | (apply Chain.quiet; · (intro vs wq hEq hd; obtain ⟨hcq, hfq⟩ := bcell hEq; clear hEq hd; (try simp only [Act.put, SP.pick, SP.is, SP.box, id_eq, List.take_succ_cons, List.take_zero, List.drop_succ_cons, List.drop_zero, List.setIfInBounds_toArray, List.set_cons_zero, List.set_cons_succ]); refine growOp_go ?_; go_simp; (try rw [if_pos (by omega)]); refine (iWaf _ _ _ _ _ _).mono ?_; rintro e w2 ⟨rfl, hb⟩; first | exact ⟨rfl, hb⟩ | exact ⟨_, rfl, hb, rfl⟩)) | (apply Chain.quiet; · (intro vs wq hEq hd; obtain ⟨hcq, hfq⟩ := bcell hEq; clear hEq hd; (try simp only [Act.put, SP.pick, SP.is, SP.box, id_eq, List.take_succ_cons, List.take_zero, List.drop_succ_cons, List.drop_zero, List.setIfInBounds_toArray, List.set_cons_zero, List.set_cons_succ]); refine growOp_go ?_; go_simp; (try rw [if_pos (by omega)]); refine (iNext _ _ _ _ _ _).mono ?_; rintro e w2 ⟨rfl, hb⟩; first | exact ⟨rfl, hb⟩ | exact ⟨_, rfl, hb, rfl⟩)))
          refine Chain.done ?_
          intro vs w4 hE4 hd4
          simp only [Act.put, SP.pick, SP.is, SP.box, id_eq, List.take_succ_cons, List.take_zero, List.drop_succ_cons, List.drop_zero, List.setIfInBounds_toArray, List.set_cons_zero, List.set_cons_succ]
          clear hd4
          have E4 := Lib.hid (Ext.trans E3.out hE4)
          go_wp2_with fail
          go_meet
          refine ⟨?_, E4⟩
          rw [decide_eq_false (show ¬ wd < m by omega), decide_eq_false (show ¬ x < wd by omega), decide_eq_false (show ¬ nextV a m x bb wd < wd by omega)]
          rfl
      case rest =>
        obtain ⟨rfl, E4⟩ := hcut
        clear E3 b3 p0 p1 p2 p3 x2 x3 hwn hwd' hw20 hw0 hwd1 hwd2 hnx1 hnx2 g1 g2 g3
        go_wp2
        go_loopw [6] (fun i wr => ∃ k : Nat, k ≤ 3 ∧ i = .int .i64 k ∧ Hid (Ext w wr)) (fun i _ => 3 - (intOf i).toNat)
        case atStart => exact ⟨0, by omega, rfl, E4⟩
        case round =>
          obtain ⟨k, hk, rfl, hE⟩ := hrel
          clear E4
          by_cases hlt : k < 3
          · have w1 : IntKind.i64.wrap ((k : Int) + 1) = (k : Int) + 1 := IntWalk.i64_in _ (by omega)
            obtain ⟨f1, f2, f3, f4, f5⟩ := cat_next k hlt
            have F1 := Lib.hid f1
            clear f1
            go_wp2_with fail
            refine (iFor _ _).mono ?_
            rintro e w5 ⟨rfl, h5⟩
            generalize pfA (k : Int) = A0 at *
            generalize pfM (k : Int) = M0 at *
            generalize pfX (k : Int) = X0 at *
            generalize pfB (k : Int) = B0 at *
            have c5 := Lib.hid (new_blk1 w5 #[.int .i64 A0, .int .i64 M0, .int .i64 X0, .int .i64 B0] 25)
            have H5 := Lib.hid (Ext.trans hE.out (Ext.trans h5 (Ext.alloc_ w5 (.cells #[.int .i64 A0, .int .i64 M0, .int .i64 X0, .int .i64 B0] 25))))
            clear h5 hE
            go_wp2_with fail
            refine (iFor _ _).mono ?_
            rintro e w6 ⟨rfl, h6⟩
            generalize pfA ((k : Int) + 1) = A1 at *
            generalize pfM ((k : Int) + 1) = M1 at *
            generalize pfX ((k : Int) + 1) = X1 at *
            generalize pfB ((k : Int) + 1) = B1 at *
            have c6 := Lib.hid (new_blk1 w6 #[.int .i64 A1, .int .i64 M1, .int .i64 X1, .int .i64 B1] 25)
            have H6 := Lib.hid (Ext.trans H5.out (Ext.trans h6 (Ext.alloc_ w6 (.cells #[.int .i64 A1, .int .i64 M1, .int .i64 X1, .int .i64 B1] 25))))
            obtain ⟨x1, x2, x3⟩ := blk_cells (ext_blk h6 c5.out)
            have c5' := Lib.hid (ext_blk (Ext.trans h6 (Ext.alloc_ w6 (.cells #[.int .i64 A1, .int .i64 M1, .int .i64 X1, .int .i64 B1] 25))) c5.out)
            have p0 := x1 0
            have p1 := x1 1
            have p2 := x1 2
            have p3 := x1 3
            simp at p0 p1 p2 p3
            clear x1 h6 c5 H5
            go_wp2_with fail
            refine (iPar _ _ _ _ _).mono ?_
            rintro e w7 ⟨rfl, h7⟩
            rw [F1.out]
            have H7 := Lib.hid (Ext.trans H6.out h7)
            clear p0 p1 p2 p3 x2 x3
            obtain ⟨x1, x2, x3⟩ := blk_cells (ext_blk h7 c5'.out)
            have p0 := x1 0
            have p1 := x1 1
            have p2 := x1 2
            simp at p0 p1 p2
            obtain ⟨y1, y2, y3⟩ := blk_cells (ext_blk h7 c6.out)
            have q0 := y1 0
            have q1 := y1 1
            have q2 := y1 2
            simp at q0 q1 q2
            clear x1 y1 h7 c5' c6 H6
            go_wp2_with fail
            refine (iName _ _).mono ?_
            rintro e w' ⟨rfl, rfl⟩
            go_wp2_with fail
            refine (iName _ _).mono ?_
            rintro e w' ⟨rfl, rfl⟩
            go_wp2_with fail
            go_roundw
            case rel => exact ⟨k + 1, by omega, by go_num, H7⟩
            case measure => simp [intOf]; omega
          · have hk3 : k = 3 := by omega
            subst hk3
            go_wp2_with fail
            refine (iWin _ _ _ [0, 2, 9, 1] _ rfl (cel_lit wr 3 #[.int .i64 0, .int .i64 2, .int .i64 9, .int .i64 1]) ml4).mono ?_
            rintro e w' ⟨rfl, rfl⟩
            rw [win_a]
            go_wp2_with fail
            have hL2 := cel_lit (wr.alloc (.cells #[.int .i64 0, .int .i64 2, .int .i64 9, .int .i64 1] 3)) 3 #[.int .i64 7]
            simp only [World.size_alloc] at hL2
            refine (iWin _ _ _ [7] _ rfl hL2 ml1).mono ?_
            rintro e w' ⟨rfl, rfl⟩
            rw [win_b]
            go_wp2_with fail
            refine (iPrio _ _).mono ?_
            rintro e w' ⟨rfl, rfl⟩
            rw [prio_a]
            go_wp2_with fail
            refine (iPrio _ _).mono ?_
            rintro e w' ⟨rfl, rfl⟩
            rw [prio_b]
            go_wp2_with fail
            go_ret
            exact ⟨rfl, Ext.trans hE.out (Ext.trans (Ext.alloc_ _ _) (Ext.alloc_ _ _))⟩
    · have hp' : parB a m x bb = false := by simpa using hp
      rw [hp', show wafV a m x bb f = 0 by simp [wafV, hp']]
      have HP := Lib.hid hp'
      clear hp hp'
      go_wp2_with fail
      refine (iPar _ _ _ _ _).mono ?_
      rintro e w4 ⟨rfl, h4⟩
      rw [HP.out]
      have E4 := Lib.hid (Ext.trans E3.out h4)
      clear h4 E3 b3 p0 p1 p2 p3 x2 x3
      go_wp2_with fail
      go_ret
      exact ⟨rfl, E4.out⟩
end Go.Proofs.Ytkmklafjcjkpdaa
