/- The law on retries. -/
import Derived.Test.YtkmklafjcjkpdaaAt
import Derived.Deep.DeepCutAuto
import Derived.Deep.RegionWith
namespace Go.Proofs.Ytkmklafjcjkpdaa
open Go.RowKit
set_option linter.unusedVariables false
set_option linter.unusedSimpArgs false
theorem fnd_of {a m x b wd : Int} (k : Nat) (hk : k ≤ 20) (h : wafV a m x b k = wd) : fndB a m x b wd = true := by
  refine fndK_mono (k := k + 1) ?_ (by omega)
  rw [fndK_succ, h]
  simp
theorem wafV_eq {a m x b : Int} (h : parB a m x b = true) (k : Nat) (hk : k ≤ 20) : wafV a m x b k = wafN m x k := by
  simp only [wafV, h, if_true]
  congr 1
  omega
theorem wafN_20 {m x : Int} (h1 : 1 ≤ m) (h2 : m ≤ x) (h3 : x ≤ 1023) : wafN m x 20 = x := by
  have key : ∀ k : Nat, min ((2 ^ k : Nat) : Int) x ≤ wafN m x k := by
    intro k
    induction k with
    | zero =>
      have := wafN_bd h1 h2 0
      simp only [wafN] at this ⊢
      omega
    | succ k ih =>
      have h4 := wafN_bd h1 h2 k
      have h5 : (2 ^ (k + 1) : Nat) = 2 * 2 ^ k := by rw [Nat.pow_succ]; omega
      rw [wafN_succ, h5]
      omega
  have := key 20
  have h4 := wafN_bd h1 h2 20
  have : ((2 ^ 20 : Nat) : Int) = 1048576 := by decide
  omega
theorem fnd_next {a m x b wd : Int} (h : parB a m x b = true) (hf : fndB a m x b wd = true) : fndB a m x b (nextV a m x b wd) = true := by
  obtain ⟨a1, a2, m1, m2, x1, x2, mx⟩ := parB_bd h
  simp only [fndB, fndK, List.any_eq_true, List.mem_range, beq_iff_eq] at hf
  obtain ⟨k, hk, he⟩ := hf
  rw [wafV_eq h k (by omega)] at he
  subst he
  rw [nextV_waf h]
  by_cases h20 : k < 20
  · exact fnd_of (k + 1) (by omega) (wafV_eq h _ (by omega))
  · have : k = 20 := by omega
    subst this
    refine fnd_of 20 (Nat.le_refl _) ?_
    have e1 := wafV_eq h 20 (Nat.le_refl _)
    have e2 := wafN_succ m x 20
    have e3 := wafN_20 m1 mx x2
    have e4 : wafV a m x b ((20 : Nat) : Int) = wafN m x 20 := e1
    omega
theorem drV_bd {d : Int} (h : 0 ≤ d) : inB (drV d) 0 1000000000000 = true := by
  unfold drV
  exact inB_mk (by omega) (by omega)
theorem bk_next {a m x b wd wt il rt dr : Int} (h : bkB a m x b wd wt il rt dr = true) (hr : rt < 7) (s : Int) : bkB a m x b (nextV a m x b wd) (rwV s dr (nextV a m x b wd)) 0 (rt + 1) (drV dr) = true ∧ rwV s dr (nextV a m x b wd) ≤ nextV a m x b wd := by
  obtain ⟨a1, a2, m1, m2, d1, d2, t1, t2, i1, i2, r1, r2, g1, g2⟩ := bk_bd h
  obtain ⟨h1, h2, h3, h4, h5, h6⟩ := bkB_true h
  have hf := fnd_next h1 h2
  obtain ⟨n1, n2, n3, n4⟩ := fnd_bd h1 hf
  have hw := rwV_bd s dr (nextV a m x b wd)
  refine ⟨?_, by omega⟩
  unfold bkB
  rw [h1, hf, inB_mk (x := rwV s dr (nextV a m x b wd)) (by omega) (by omega), inB_mk (x := 0) (by omega) (by omega), inB_mk (x := rt + 1) (by omega) (by omega), drV_bd g1]
  rfl
theorem bk_suc {a m x b wd wt il rt dr : Int} (h : bkB a m x b wd wt il rt dr = true) (s : Int) : bkB a m x b m (rwV s dr m) 0 0 (drV dr) = true := by
  obtain ⟨a1, a2, m1, m2, d1, d2, t1, t2, i1, i2, r1, r2, g1, g2⟩ := bk_bd h
  obtain ⟨h1, h2, h3, h4, h5, h6⟩ := bkB_true h
  have hf : fndB a m x b m = true := fnd_of 0 (by omega) (by rw [wafV_eq h1 0 (by omega)]; rfl)
  have hw := rwV_bd s dr m
  unfold bkB
  rw [h1, hf, inB_mk (x := rwV s dr m) (by omega) (by omega), inB_mk (x := 0) (by omega) (by omega), inB_mk (x := 0) (by omega) (by omega), drV_bd g1]
  rfl
theorem bk_new {c : Int} (h : c = 0 ∨ c = 1 ∨ c = 2 ∨ c = 3) (s : Int) : bkB (pfA c) (pfM c) (pfX c) (pfB c) (pfM c) (nbW c s) 0 0 (nbD c) = true := by
  have hp : parB (pfA c) (pfM c) (pfX c) (pfB c) = true := by rcases h with rfl | rfl | rfl | rfl <;> decide
  have hi : inB c 0 3 = true := inB_mk (by omega) (by omega)
  have hw := rwV_bd s 0 (pfM c)
  obtain ⟨a1, a2, m1, m2, x1, x2, mx⟩ := parB_bd hp
  have hf : fndB (pfA c) (pfM c) (pfX c) (pfB c) (pfM c) = true := fnd_of 0 (by omega) (by rw [wafV_eq hp 0 (by omega)]; rfl)
  unfold bkB
  rw [hp, hf, show nbW c s = rwV s 0 (pfM c) by simp [nbW, hi], show nbD c = 1 by simp [nbD, hi], inB_mk (x := rwV s 0 (pfM c)) (by omega) (by omega), inB_mk (x := 0) (by omega) (by omega), inB_mk (x := 0) (by omega) (by omega), inB_mk (x := 1) (by omega) (by omega)]
  rfl
theorem bk_fail {a m x b wd wt il rt dr s : Int} {ok la : Bool} (hok : bkB a m x b wd wt il rt dr = ok) (hla : (rt == 7) = la) : bkB a m x b (sel ok (sel la m (nextV a m x b wd)) wd) (sel ok (sel la (rwV s dr m) (rwV s dr (nextV a m x b wd))) wt) (sel ok 0 il) (sel ok (sel la 0 (rt + 1)) rt) (sel ok (drV dr) dr) = ok := by
  cases ok with
  | false => exact hok
  | true =>
    cases la with
    | true => exact bk_suc hok s
    | false =>
      obtain ⟨a1, a2, m1, m2, d1, d2, t1, t2, i1, i2, r1, r2, g1, g2⟩ := bk_bd hok
      have : rt ≠ 7 := by simpa using hla
      exact (bk_next hok (by omega) s).1
set_option maxRecDepth 8000 in
set_option maxHeartbeats 4000000 in
theorem walk_FnRetries (a0 : Option Addr) (n0 c0 : Nat) (w : World) (r0 : Rd Try.prog w 22 [.slice a0 n0 c0]) :
    Calls Try.prog 5 #[.slice a0 n0 c0] w fun e w' => e = .returned (.bool true) ∧ Below w.heap.size w w' := by
  obtain ⟨l, hn, hr, hb, hm⟩ := view_code r0
  clear r0
  by_cases hbig : (1048576 : Int) < n0
  · go_enter Try.func5, Try.ntmps5
    go_wp2_with fail
    refine (big_ _ _ _ _ hm).mono ?_
    rintro e w' ⟨rfl, rfl⟩
    rw [decide_eq_true hbig]
    go_wp2_with fail
    go_ret
    exact ⟨rfl, Below.refl _ _⟩
  · have hl : n0 ≤ 1048576 := by omega
    have HR := Lib.hid hr
    have HB := Lib.hid hb
    have HN := Lib.hid hn
    go_enter Try.func5, Try.ntmps5
    go_wp2_with fail
    refine (big_ _ _ _ _ hm).mono ?_
    rintro e w' ⟨rfl, rfl⟩
    rw [decide_eq_false (by omega)]
    clear hbig hm hr hb hn
    go_wp2_with fail
    refine (at_ _ _ _ _ l 0 _ rfl HN.out HR.out HB.out hl (by omega)).mono ?_
    rintro e w1 ⟨rfl, rfl⟩
    have hk := mod_lt (atV_bd HB.out 0).1 (show (0 : Int) < 4 by decide)
    obtain ⟨s1, hs1⟩ : ∃ s1, s1 = atV l 1 := ⟨_, rfl⟩
    have S1 := Lib.hid hs1
    clear hs1
    go_wp2_with fail
    refine (at_ _ _ _ _ l 1 _ rfl HN.out HR.out HB.out hl (by omega)).mono ?_
    rintro e w2 ⟨rfl, rfl⟩
    rw [← S1.out]
    go_wp2_with fail
    refine (iNewBk _ _ _).mono ?_
    rintro e w3 ⟨rfl, h3⟩
    generalize (atV l 0).tmod 4 = ck at *
    have HV := Lib.hid (bk_new (c := ck) (by omega) s1)
    generalize pfA ck = a at *
    generalize pfM ck = m at *
    generalize pfX ck = x at *
    generalize pfB ck = bb at *
    generalize nbW ck s1 = wt0 at *
    generalize nbD ck = dr0 at *
    have e4 := Ext.alloc_ w3 (.cells #[.int .i64 a, .int .i64 m, .int .i64 x, .int .i64 bb, .int .i64 m, .int .i64 wt0, .int .i64 0, .int .i64 0, .int .i64 dr0] 27)
    have E4 := Lib.hid (Ext.trans h3 e4)
    have b4 := Lib.hid (new_blk1 w3 #[.int .i64 a, .int .i64 m, .int .i64 x, .int .i64 bb, .int .i64 m, .int .i64 wt0, .int .i64 0, .int .i64 0, .int .i64 dr0] 27)
    have hg4 : w.heap.size ≤ w3.heap.size := h3.size
    clear h3 e4 hk
    go_wp2_with fail
    generalize w3.heap.size = g4 at *
    go_loopw [5] (fun i wr => ∃ (k : Nat) (wd wt il dr : Int), k ≤ 7 ∧ i = .int .i64 k ∧ bkB a m x bb wd wt il k dr = true ∧ wr.heap[g4]? = some (.cells #[.int .i64 a, .int .i64 m, .int .i64 x, .int .i64 bb, .int .i64 wd, .int .i64 wt, .int .i64 il, .int .i64 k, .int .i64 dr] 27 (0, 0)) ∧ Hid (Ext w wr)) (fun i _ => 7 - (intOf i).toNat)
    case atStart => exact ⟨0, m, wt0, 0, dr0, by omega, rfl, by simpa using HV.out, by simpa using b4.out, E4⟩
    case round =>
      clear HV b4 E4
      obtain ⟨k, wd, wt, il, dr, hk, rfl, hv, hb4, hE⟩ := hrel
      have HV := Lib.hid hv
      have b4 := Lib.hid hb4
      clear hv hb4
      by_cases hlt : k < 7
      · have hla : (((k : Int)) == 7) = false := by simp; omega
        have HL := Lib.hid hla
        obtain ⟨s, hs⟩ : ∃ s, s = atV l (k + 2) := ⟨_, rfl⟩
        obtain ⟨n1, n2⟩ := bk_next HV.out (by omega) s
        obtain ⟨N, hN⟩ : ∃ N, N = nextV a m x bb wd := ⟨_, rfl⟩
        rw [← hN] at n1 n2
        generalize hW : rwV s dr N = W at *
        generalize hD : drV dr = dr' at *
        have hNW : ¬ N < W := by omega
        have HN1 := Lib.hid n1
        have HX := Lib.hid (show sel true (sel false m (nextV a m x bb wd)) wd = N ∧ sel true (sel false (rwV s dr m) (rwV s dr (nextV a m x bb wd))) wt = W ∧ sel true 0 il = 0 ∧ sel true (sel false 0 ((k : Int) + 1)) k = (k : Int) + 1 ∧ sel true (drV dr) dr = dr' from ⟨by rw [hN]; rfl, by rw [← hW, hN]; rfl, rfl, rfl, by rw [← hD]; rfl⟩)
        have HS := Lib.hid hs
        have HNN := Lib.hid hN
        clear n1 n2 hla hN hW hD hs
        have w2 : IntKind.i64.wrap ((k : Int) + 2) = (k : Int) + 2 := IntWalk.i64_in _ (by omega)
        have w1 : IntKind.i64.wrap ((k : Int) + 1) = (k : Int) + 1 := IntWalk.i64_in _ (by omega)
        obtain ⟨x1, x2, x3⟩ := blk_cells b4.out
        have p0 := x1 0
        have p1 := x1 1
        have p2 := x1 2
        have p3 := x1 3
        have p4 := x1 4
        have p5 := x1 5
        have p6 := x1 6
        have p7 := x1 7
        have p8 := x1 8
        simp at p0 p1 p2 p3 p4 p5 p6 p7 p8
        clear x1
        have hE0 : Ext w wr := hE.out
        go_upto_region 8 with fail
        go_cut [6, 7] from 24 to 73 (fun u6 u7 wx => ∃ g6 : Nat, u6 = .pointer (some ⟨g6, 0, none⟩) ∧ u7 = .bool true ∧ w.heap.size ≤ g6 ∧ wx.heap[g6]? = some (.cells #[.int .i64 a, .int .i64 m, .int .i64 x, .int .i64 bb, .int .i64 N, .int .i64 W, .int .i64 0, .int .i64 ((k : Int) + 1), .int .i64 dr'] 27 (0, 0)) ∧ wx.heap[g4]? = some (.cells #[.int .i64 a, .int .i64 m, .int .i64 x, .int .i64 bb, .int .i64 wd, .int .i64 wt, .int .i64 il, .int .i64 k, .int .i64 dr] 27 (0, 0)) ∧ Hid (Ext w wx))
        case first =>
          go_region_with (first | (go_at_call 24; refine (at_ _ _ _ _ l (k + 2) _ (by omega) HN.out (HR.out.ext (by repeat (first | exact hE0 | refine Ext.drew ?_ | refine Ext.trans ?_ (Ext.alloc_ _ _)))) HB.out hl (by omega)).mono ?_; rintro e w' ⟨rfl, rfl⟩; rw [← HS.out]) | (go_at_call 26; refine (iFail _ _ _ _ _ _ _ _ _ s true false HV.out HL.out _).mono ?_; rintro e w9 ⟨rfl, hb9⟩; rw [HX.out.1, HX.out.2.1, HX.out.2.2.1, HX.out.2.2.2.1, HX.out.2.2.2.2]; have X9 : Ext wr w9 := Ext.trans (by repeat (first | exact Ext.refl _ | refine Ext.drew ?_ | refine Ext.trans ?_ (Ext.alloc_ _ _))) hb9; (try ((first | have z9 := ext_blk hb9 (new_blk1 wr #[.int .i64 0, .int .i64 0, .int .i64 0, .int .i64 0, .int .i64 0, .int .i64 0, .int .i64 0, .int .i64 0, .int .i64 0] 27) | have z9 := ext_blk hb9 (new_blk1 wr.drew #[.int .i64 0, .int .i64 0, .int .i64 0, .int .i64 0, .int .i64 0, .int .i64 0, .int .i64 0, .int .i64 0, .int .i64 0] 27) | have z9 := ext_blk hb9 (new_blk1 wr.drew.drew #[.int .i64 0, .int .i64 0, .int .i64 0, .int .i64 0, .int .i64 0, .int .i64 0, .int .i64 0, .int .i64 0, .int .i64 0] 27) | have z9 := ext_blk hb9 (new_blk1 wr.drew.drew.drew #[.int .i64 0, .int .i64 0, .int .i64 0, .int .i64 0, .int .i64 0, .int .i64 0, .int .i64 0, .int .i64 0, .int .i64 0] 27) | have z9 := ext_blk hb9 (new_blk1 wr.drew.drew.drew.drew #[.int .i64 0, .int .i64 0, .int .i64 0, .int .i64 0, .int .i64 0, .int .i64 0, .int .i64 0, .int .i64 0, .int .i64 0] 27) | have z9 := ext_blk hb9 (new_blk1 wr.drew.drew.drew.drew.drew #[.int .i64 0, .int .i64 0, .int .i64 0, .int .i64 0, .int .i64 0, .int .i64 0, .int .i64 0, .int .i64 0, .int .i64 0] 27)); obtain ⟨z1, z2, z3⟩ := blk_cells z9; have o0 := z1 0; have o1 := z1 1; have o2 := z1 2; have o3 := z1 3; have o4 := z1 4; have o5 := z1 5; have o6 := z1 6; have o7 := z1 7; have o8 := z1 8; simp at o0 o1 o2 o3 o4 o5 o6 o7 o8; clear z1))))
          all_goals (go_wp2_with fail; go_meet)
          all_goals first
            | exact ⟨_, rfl, rfl, Nat.le_trans hE0.size X9.size, new_blk1 _ _ _, alloc_blk _ (ext_blk X9 b4.out), Lib.hid (Ext.trans (Ext.trans hE0 X9) (Ext.alloc_ _ _))⟩
            | exact ⟨_, rfl, rfl, hE0.size, put9_blk z9, put9_oth (ext_blk X9 b4.out) (Nat.ne_of_lt (heap_lt b4.out)), Lib.hid (put9_ext (Ext.trans hE0 X9) hE0.size)⟩
        case rest =>
          obtain ⟨g6, rfl, rfl, hg6, hb6, hb4, hE6⟩ := hcut
          have b6 := Lib.hid hb6
          have b4' := Lib.hid hb4
          clear p0 p1 p2 p3 p4 p5 p6 p7 p8 x2 x3
          clear hb6 hb4 b4 hE hE0
          obtain ⟨x1, x2, x3⟩ := blk_cells b4'.out
          have p0 := x1 0
          have p1 := x1 1
          have p2 := x1 2
          have p3 := x1 3
          have p4 := x1 4
          have p5 := x1 5
          have p6 := x1 6
          have p7 := x1 7
          have p8 := x1 8
          simp at p0 p1 p2 p3 p4 p5 p6 p7 p8
          clear x1
          obtain ⟨y1, y2, y3⟩ := blk_cells b6.out
          have q0 := y1 0
          have q1 := y1 1
          have q2 := y1 2
          have q3 := y1 3
          have q4 := y1 4
          have q5 := y1 5
          have q6 := y1 6
          have q7 := y1 7
          have q8 := y1 8
          simp at q0 q1 q2 q3 q4 q5 q6 q7 q8
          clear y1
          have hnn := Lib.hid HNN.out.symm
          have hvv := Lib.hid HN1.out
          go_wp2_with fail
          refine wp_region_chain 36 (by kernel_rfl) (by kernel_rfl) ?_
          simp only [List.take_succ_cons, List.take_zero, List.drop_succ_cons, List.drop_zero]
          repeat (first | (apply Chain.quiet; · (intro vs wq hEq hd; obtain ⟨hcq, hfq⟩ := bcell hEq; clear hEq hd; (try simp only [Act.put, SP.pick, SP.is, SP.box, id_eq, List.take_succ_cons, List.take_zero, List.drop_succ_cons, List.drop_zero, List.setIfInBounds_toArray, List.set_cons_zero, List.set_cons_succ]); refine growOp_go ?_; go_simp; first | exact ⟨Ext.refl _, rfl⟩ | exact rfl | (split; (exfalso; omega); (first | exact ⟨Ext.refl _, rfl⟩ | exact rfl)) | (split; (first | exact ⟨Ext.refl _, rfl⟩ | exact rfl); (exfalso; omega)))) | (apply Chain.quiet; · (intro vs wq hEq hd; obtain ⟨hcq, hfq⟩ := bcell hEq; have HE := Lib.hid hEq; clear hEq hd; (try simp only [Act.put, SP.pick, SP.is, SP.box, id_eq, List.take_succ_cons, List.take_zero, List.drop_succ_cons, List.drop_zero, List.setIfInBounds_toArray, List.set_cons_zero, List.set_cons_succ]); refine growOp_go ?_; go_simp; refine (iNext _ _ _ _ _ _).mono ?_; rintro e w5 ⟨rfl, hb⟩; rw [hnn.out]; first | exact ⟨rfl, hb⟩ | exact ⟨_, rfl, hb, rfl⟩)) | (apply Chain.quiet; · (intro vs wq hEq hd; obtain ⟨hcq, hfq⟩ := bcell hEq; have HE := Lib.hid hEq; clear hEq hd; (try simp only [Act.put, SP.pick, SP.is, SP.box, id_eq, List.take_succ_cons, List.take_zero, List.drop_succ_cons, List.drop_zero, List.setIfInBounds_toArray, List.set_cons_zero, List.set_cons_succ]); refine growOp_go ?_; go_simp; refine (iBkOk _ _ _ _ _ _ _ _ _ _).mono ?_; rintro e w5 ⟨rfl, hb⟩; rw [hvv.out]; first | exact ⟨rfl, hb⟩ | exact ⟨_, rfl, hb, rfl⟩)))
          refine Chain.done ?_
          intro vs w7 hE7 hd7
          simp only [Act.put, SP.pick, SP.is, SP.box, id_eq, List.take_succ_cons, List.take_zero, List.drop_succ_cons, List.drop_zero, List.setIfInBounds_toArray, List.set_cons_zero, List.set_cons_succ]
          clear hd7
          have E7 := Lib.hid (Ext.trans hE6.out hE7)
          have b6' := Lib.hid (ext_blk hE7 b6.out)
          have b4 := Lib.hid (ext_blk hE7 b4'.out)
          clear p0 p1 p2 p3 p4 p5 p6 p7 p8 x2 x3
          clear q0 q1 q2 q3 q4 q5 q6 q7 q8 y2 y3
          clear hE7 hE6 b6 b4'
          obtain ⟨x1, x2, x3⟩ := blk_cells b4.out
          have p0 := x1 0
          have p1 := x1 1
          have p2 := x1 2
          have p3 := x1 3
          have p4 := x1 4
          have p5 := x1 5
          have p6 := x1 6
          have p7 := x1 7
          have p8 := x1 8
          simp at p0 p1 p2 p3 p4 p5 p6 p7 p8
          clear x1
          obtain ⟨y1, y2, y3⟩ := blk_cells b6'.out
          have q0 := y1 0
          have q1 := y1 1
          have q2 := y1 2
          have q3 := y1 3
          have q4 := y1 4
          have q5 := y1 5
          have q6 := y1 6
          have q7 := y1 7
          have q8 := y1 8
          simp at q0 q1 q2 q3 q4 q5 q6 q7 q8
          clear y1
          go_wp2_with fail
          go_roundw
          case rel =>
            exact ⟨k + 1, N, W, 0, dr', by omega, rfl, HN1.out, put9_blk b4.out, Lib.hid (put9_ext E7.out hg4)⟩
          case measure => simp [intOf]; omega
      · have hk7 : k = 7 := by omega
        subst hk7
        have HS := Lib.hid (bk_suc HV.out s1)
        generalize hR : rwV s1 dr m = R at *
        generalize hD : drV dr = D at *
        have HX := Lib.hid (show sel true (sel true m (nextV a m x bb wd)) wd = m ∧ sel true (sel true (rwV s1 dr m) (rwV s1 dr (nextV a m x bb wd))) wt = R ∧ sel true 0 il = 0 ∧ sel true (sel true 0 (((7 : Nat) : Int) + 1)) ((7 : Nat) : Int) = 0 ∧ sel true (drV dr) dr = D from ⟨rfl, hR, rfl, rfl, hD⟩)
        have HY := Lib.hid (show sel true m wd = m ∧ sel true (rwV s1 dr m) wt = R ∧ sel true 0 il = 0 ∧ sel true 0 ((7 : Nat) : Int) = 0 ∧ sel true (drV dr) dr = D from ⟨rfl, hR, rfl, rfl, hD⟩)
        have HL := Lib.hid (show ((((7 : Nat) : Int)) == 7) = true by decide)
        clear hR hD
        have hE0 : Ext w wr := hE.out
        obtain ⟨x1, x2, x3⟩ := blk_cells b4.out
        have p0 := x1 0
        have p1 := x1 1
        have p2 := x1 2
        have p3 := x1 3
        have p4 := x1 4
        have p5 := x1 5
        have p6 := x1 6
        have p7 := x1 7
        have p8 := x1 8
        simp at p0 p1 p2 p3 p4 p5 p6 p7 p8
        clear x1
        go_upto_region 12 with fail
        go_cut [8, 9] from 74 (fun u8 u9 wx => ∃ g8 : Nat, u8 = .pointer (some ⟨g8, 0, none⟩) ∧ u9 = .bool false ∧ w.heap.size ≤ g8 ∧ wx.heap[g8]? = some (.cells #[.int .i64 a, .int .i64 m, .int .i64 x, .int .i64 bb, .int .i64 m, .int .i64 R, .int .i64 0, .int .i64 0, .int .i64 D] 27 (0, 0)) ∧ wx.heap[g4]? = some (.cells #[.int .i64 a, .int .i64 m, .int .i64 x, .int .i64 bb, .int .i64 wd, .int .i64 wt, .int .i64 il, .int .i64 ((7 : Nat) : Int), .int .i64 dr] 27 (0, 0)) ∧ Hid (Ext w wx))
        case first =>
          go_region_with (first | (go_at_call 24; refine (at_ _ _ _ _ l 1 _ (by omega) HN.out (HR.out.ext (by repeat (first | exact hE0 | refine Ext.drew ?_ | refine Ext.trans ?_ (Ext.alloc_ _ _)))) HB.out hl (by omega)).mono ?_; rintro e w' ⟨rfl, rfl⟩; rw [← S1.out]) | (go_at_call 26; refine (iFail _ _ _ _ _ _ _ _ _ s1 true true HV.out HL.out _).mono ?_; rintro e w9 ⟨rfl, hb9⟩; rw [HX.out.1, HX.out.2.1, HX.out.2.2.1, HX.out.2.2.2.1, HX.out.2.2.2.2]; have X9 : Ext wr w9 := Ext.trans (by repeat (first | exact Ext.refl _ | refine Ext.drew ?_ | refine Ext.trans ?_ (Ext.alloc_ _ _))) hb9; (try ((first | have z9 := ext_blk hb9 (new_blk1 wr #[.int .i64 0, .int .i64 0, .int .i64 0, .int .i64 0, .int .i64 0, .int .i64 0, .int .i64 0, .int .i64 0, .int .i64 0] 27) | have z9 := ext_blk hb9 (new_blk1 wr.drew #[.int .i64 0, .int .i64 0, .int .i64 0, .int .i64 0, .int .i64 0, .int .i64 0, .int .i64 0, .int .i64 0, .int .i64 0] 27) | have z9 := ext_blk hb9 (new_blk1 wr.drew.drew #[.int .i64 0, .int .i64 0, .int .i64 0, .int .i64 0, .int .i64 0, .int .i64 0, .int .i64 0, .int .i64 0, .int .i64 0] 27) | have z9 := ext_blk hb9 (new_blk1 wr.drew.drew.drew #[.int .i64 0, .int .i64 0, .int .i64 0, .int .i64 0, .int .i64 0, .int .i64 0, .int .i64 0, .int .i64 0, .int .i64 0] 27) | have z9 := ext_blk hb9 (new_blk1 wr.drew.drew.drew.drew #[.int .i64 0, .int .i64 0, .int .i64 0, .int .i64 0, .int .i64 0, .int .i64 0, .int .i64 0, .int .i64 0, .int .i64 0] 27) | have z9 := ext_blk hb9 (new_blk1 wr.drew.drew.drew.drew.drew #[.int .i64 0, .int .i64 0, .int .i64 0, .int .i64 0, .int .i64 0, .int .i64 0, .int .i64 0, .int .i64 0, .int .i64 0] 27)); obtain ⟨z1, z2, z3⟩ := blk_cells z9; have o0 := z1 0; have o1 := z1 1; have o2 := z1 2; have o3 := z1 3; have o4 := z1 4; have o5 := z1 5; have o6 := z1 6; have o7 := z1 7; have o8 := z1 8; simp at o0 o1 o2 o3 o4 o5 o6 o7 o8; clear z1))))
          all_goals (go_wp2_with fail; go_meet)
          all_goals first
            | exact ⟨_, rfl, rfl, Nat.le_trans hE0.size X9.size, new_blk1 _ _ _, alloc_blk _ (ext_blk X9 b4.out), Lib.hid (Ext.trans (Ext.trans hE0 X9) (Ext.alloc_ _ _))⟩
            | exact ⟨_, rfl, rfl, hE0.size, put9_blk z9, put9_oth (ext_blk X9 b4.out) (Nat.ne_of_lt (heap_lt b4.out)), Lib.hid (put9_ext (Ext.trans hE0 X9) hE0.size)⟩
        case rest =>
        obtain ⟨g8, rfl, rfl, hg8, hb8, hb4, hE8⟩ := hcut
        have b8 := Lib.hid hb8
        have b4' := Lib.hid hb4
        clear p0 p1 p2 p3 p4 p5 p6 p7 p8 x2 x3
        clear hb8 hb4 b4 hE hE0
        have hE0 : Ext w wc := hE8.out
        obtain ⟨x1, x2, x3⟩ := blk_cells b4'.out
        have p0 := x1 0
        have p1 := x1 1
        have p2 := x1 2
        have p3 := x1 3
        have p4 := x1 4
        have p5 := x1 5
        have p6 := x1 6
        have p7 := x1 7
        have p8 := x1 8
        simp at p0 p1 p2 p3 p4 p5 p6 p7 p8
        clear x1
        go_upto_region 13 with fail
        go_cut [10] from 81 (fun u10 wx => ∃ g10 : Nat, u10 = .pointer (some ⟨g10, 0, none⟩) ∧ w.heap.size ≤ g10 ∧ wx.heap[g10]? = some (.cells #[.int .i64 a, .int .i64 m, .int .i64 x, .int .i64 bb, .int .i64 m, .int .i64 R, .int .i64 0, .int .i64 0, .int .i64 D] 27 (0, 0)) ∧ wx.heap[g8]? = some (.cells #[.int .i64 a, .int .i64 m, .int .i64 x, .int .i64 bb, .int .i64 m, .int .i64 R, .int .i64 0, .int .i64 0, .int .i64 D] 27 (0, 0)) ∧ Hid (Ext w wx))
        case first =>
          go_region_with (first | (go_at_call 24; refine (at_ _ _ _ _ l 1 _ (by omega) HN.out (HR.out.ext (by repeat (first | exact hE0 | refine Ext.drew ?_ | refine Ext.trans ?_ (Ext.alloc_ _ _)))) HB.out hl (by omega)).mono ?_; rintro e w' ⟨rfl, rfl⟩; rw [← S1.out]) | (go_at_call 28; refine (iSuc _ _ _ _ _ _ _ _ _ s1 true HV.out _).mono ?_; rintro e w9 ⟨rfl, hb9⟩; rw [HY.out.1, HY.out.2.1, HY.out.2.2.1, HY.out.2.2.2.1, HY.out.2.2.2.2]; have X9 : Ext wc w9 := Ext.trans (by repeat (first | exact Ext.refl _ | refine Ext.drew ?_ | refine Ext.trans ?_ (Ext.alloc_ _ _))) hb9; (try ((first | have z9 := ext_blk hb9 (new_blk1 wc #[.int .i64 0, .int .i64 0, .int .i64 0, .int .i64 0, .int .i64 0, .int .i64 0, .int .i64 0, .int .i64 0, .int .i64 0] 27) | have z9 := ext_blk hb9 (new_blk1 wc.drew #[.int .i64 0, .int .i64 0, .int .i64 0, .int .i64 0, .int .i64 0, .int .i64 0, .int .i64 0, .int .i64 0, .int .i64 0] 27) | have z9 := ext_blk hb9 (new_blk1 wc.drew.drew #[.int .i64 0, .int .i64 0, .int .i64 0, .int .i64 0, .int .i64 0, .int .i64 0, .int .i64 0, .int .i64 0, .int .i64 0] 27) | have z9 := ext_blk hb9 (new_blk1 wc.drew.drew.drew #[.int .i64 0, .int .i64 0, .int .i64 0, .int .i64 0, .int .i64 0, .int .i64 0, .int .i64 0, .int .i64 0, .int .i64 0] 27) | have z9 := ext_blk hb9 (new_blk1 wc.drew.drew.drew.drew #[.int .i64 0, .int .i64 0, .int .i64 0, .int .i64 0, .int .i64 0, .int .i64 0, .int .i64 0, .int .i64 0, .int .i64 0] 27) | have z9 := ext_blk hb9 (new_blk1 wc.drew.drew.drew.drew.drew #[.int .i64 0, .int .i64 0, .int .i64 0, .int .i64 0, .int .i64 0, .int .i64 0, .int .i64 0, .int .i64 0, .int .i64 0] 27)); obtain ⟨z1, z2, z3⟩ := blk_cells z9; have o0 := z1 0; have o1 := z1 1; have o2 := z1 2; have o3 := z1 3; have o4 := z1 4; have o5 := z1 5; have o6 := z1 6; have o7 := z1 7; have o8 := z1 8; simp at o0 o1 o2 o3 o4 o5 o6 o7 o8; clear z1))))
          all_goals (go_wp2_with fail; go_meet)
          all_goals first
            | exact ⟨_, rfl, Nat.le_trans hE0.size X9.size, new_blk1 _ _ _, alloc_blk _ (ext_blk X9 b8.out), Lib.hid (Ext.trans (Ext.trans hE0 X9) (Ext.alloc_ _ _))⟩
            | exact ⟨_, rfl, hE0.size, put9_blk z9, put9_oth (ext_blk X9 b8.out) (Nat.ne_of_lt (heap_lt b8.out)), Lib.hid (put9_ext (Ext.trans hE0 X9) hE0.size)⟩
        case rest =>
        obtain ⟨g10, rfl, hg10, hb10, hb8', hE10⟩ := hcut
        have b10 := Lib.hid hb10
        have b8' := Lib.hid hb8'
        clear p0 p1 p2 p3 p4 p5 p6 p7 p8 x2 x3
        clear hb10 hb8' hE8 b8 b4' hE0
        go_wp2_with fail
        refine (sDrawFail _ _ _ _ l HN.out (HR.out.ext hE10.out) HB.out hl).mono ?_
        rintro e w11 ⟨A2, M2, X2, B2, D2, T2, I2, R2, Q2, s2, rfl, hB2, hs2, hE11⟩
        have e11 := Ext.alloc_ w11 (.cells #[.int .i64 A2, .int .i64 M2, .int .i64 X2, .int .i64 B2, .int .i64 D2, .int .i64 T2, .int .i64 I2, .int .i64 R2, .int .i64 Q2] 27)
        have b11 := Lib.hid (new_blk1 w11 #[.int .i64 A2, .int .i64 M2, .int .i64 X2, .int .i64 B2, .int .i64 D2, .int .i64 T2, .int .i64 I2, .int .i64 R2, .int .i64 Q2] 27)
        have E11 := Lib.hid (Ext.trans hE10.out (Ext.trans hE11 e11))
        have b10' := Lib.hid (ext_blk (Ext.trans hE11 e11) b10.out)
        have b8 := Lib.hid (ext_blk (Ext.trans hE11 e11) b8'.out)
        clear hB2 hs2 hE11 e11 hE10 b10 b8'
        obtain ⟨okw, hok⟩ : ∃ o, bkB A2 M2 X2 B2 D2 T2 I2 R2 Q2 = o := ⟨_, rfl⟩
        obtain ⟨law, hla⟩ : ∃ o, (R2 == 7) = o := ⟨_, rfl⟩
        have HV2 := Lib.hid (bk_fail (s := s2) hok hla)
        have HO := Lib.hid hok
        have HLA := Lib.hid hla
        clear hok hla
        go_wp2_with fail
        refine (iFail _ _ _ _ _ _ _ _ _ s2 okw law HO.out HLA.out _).mono ?_
        rintro e w12 ⟨rfl, h12⟩
        generalize sel okw (sel law M2 (nextV A2 M2 X2 B2 D2)) D2 = V5 at *
        generalize sel okw (sel law (rwV s2 Q2 M2) (rwV s2 Q2 (nextV A2 M2 X2 B2 D2))) T2 = V6 at *
        generalize sel okw 0 I2 = V7 at *
        generalize sel okw (sel law 0 (R2 + 1)) R2 = V8 at *
        generalize sel okw (drV Q2) Q2 = V9 at *
        generalize (okw && !law) = bz at *
        have e12 := Ext.alloc_ w12 (.cells #[.int .i64 A2, .int .i64 M2, .int .i64 X2, .int .i64 B2, .int .i64 V5, .int .i64 V6, .int .i64 V7, .int .i64 V8, .int .i64 V9] 27)
        have b13 := Lib.hid (new_blk1 w12 #[.int .i64 A2, .int .i64 M2, .int .i64 X2, .int .i64 B2, .int .i64 V5, .int .i64 V6, .int .i64 V7, .int .i64 V8, .int .i64 V9] 27)
        have E12 := Lib.hid (Ext.trans E11.out (Ext.trans h12 e12))
        have b11' := Lib.hid (ext_blk (Ext.trans h12 e12) b11.out)
        have b10 := Lib.hid (ext_blk (Ext.trans h12 e12) b10'.out)
        have b8' := Lib.hid (ext_blk (Ext.trans h12 e12) b8.out)
        clear h12 e12 E11 b11 b10' b8 HLA
        go_wp2_with fail
        generalize World.alloc w12 _ = w13 at *
        generalize w12.heap.size = g13 at *
        generalize w11.heap.size = g11 at *
        obtain ⟨z1, z2, z3⟩ := blk_cells b13.out
        have o0 := z1 0
        have o1 := z1 1
        have o2 := z1 2
        have o3 := z1 3
        have o4 := z1 4
        have o5 := z1 5
        have o6 := z1 6
        have o7 := z1 7
        have o8 := z1 8
        simp at o0 o1 o2 o3 o4 o5 o6 o7 o8
        clear z1
        obtain ⟨y1, y2, y3⟩ := blk_cells b11'.out
        have q0 := y1 0
        have q1 := y1 1
        have q2 := y1 2
        have q3 := y1 3
        have q4 := y1 4
        have q5 := y1 5
        have q6 := y1 6
        have q7 := y1 7
        have q8 := y1 8
        simp at q0 q1 q2 q3 q4 q5 q6 q7 q8
        clear y1
        obtain ⟨x1, x2, x3⟩ := blk_cells b10.out
        have p0 := x1 0
        have p1 := x1 1
        have p2 := x1 2
        have p3 := x1 3
        have p4 := x1 4
        have p5 := x1 5
        have p6 := x1 6
        have p7 := x1 7
        have p8 := x1 8
        simp at p0 p1 p2 p3 p4 p5 p6 p7 p8
        clear x1
        obtain ⟨v1, v2, v3⟩ := blk_cells b8'.out
        have r0 := v1 0
        have r1 := v1 1
        have r2 := v1 2
        have r3 := v1 3
        have r4 := v1 4
        have r5 := v1 5
        have r6 := v1 6
        have r7 := v1 7
        have r8 := v1 8
        simp at r0 r1 r2 r3 r4 r5 r6 r7 r8
        clear v1
        have hrw := Lib.hid (show rwV 5 3 1024 = 0 from by decide)
        refine wp_region_chain 36 (by kernel_rfl) (by kernel_rfl) ?_
        simp only [List.take_succ_cons, List.take_zero, List.drop_succ_cons, List.drop_zero]
        repeat (first | (apply Chain.quiet; · (intro vs wq hEq hd; obtain ⟨hcq, hfq⟩ := bcell hEq; clear hEq hd; (try simp only [Act.put, SP.pick, SP.is, SP.box, id_eq, List.take_succ_cons, List.take_zero, List.drop_succ_cons, List.drop_zero, List.setIfInBounds_toArray, List.set_cons_zero, List.set_cons_succ]); refine growOp_go ?_; go_simp; first | exact ⟨Ext.refl _, rfl⟩ | exact rfl | (split; (exfalso; omega); (first | exact ⟨Ext.refl _, rfl⟩ | exact rfl)) | (split; (first | exact ⟨Ext.refl _, rfl⟩ | exact rfl); (exfalso; omega)))) | (apply Chain.quiet; · (intro vs wq hEq hd; obtain ⟨hcq, hfq⟩ := bcell hEq; have HE := Lib.hid hEq; clear hEq hd; (try simp only [Act.put, SP.pick, SP.is, SP.box, id_eq, List.take_succ_cons, List.take_zero, List.drop_succ_cons, List.drop_zero, List.setIfInBounds_toArray, List.set_cons_zero, List.set_cons_succ]); refine growOp_go ?_; go_simp; refine (iBkOk _ _ _ _ _ _ _ _ _ _).mono ?_; rintro e w5 ⟨rfl, hb⟩; rw [HS.out]; first | exact ⟨rfl, hb⟩ | exact ⟨_, rfl, hb, rfl⟩)) | (apply Chain.quiet; · (intro vs wq hEq hd; obtain ⟨hcq, hfq⟩ := bcell hEq; have HE := Lib.hid hEq; clear hEq hd; (try simp only [Act.put, SP.pick, SP.is, SP.box, id_eq, List.take_succ_cons, List.take_zero, List.drop_succ_cons, List.drop_zero, List.setIfInBounds_toArray, List.set_cons_zero, List.set_cons_succ]); refine growOp_go ?_; go_simp; refine (iBkOk _ _ _ _ _ _ _ _ _ _).mono ?_; rintro e w5 ⟨rfl, hb⟩; rw [HV2.out]; first | exact ⟨rfl, hb⟩ | exact ⟨_, rfl, hb, rfl⟩)) | (apply Chain.quiet; · (intro vs wq hEq hd; obtain ⟨hcq, hfq⟩ := bcell hEq; have HE := Lib.hid hEq; clear hEq hd; (try simp only [Act.put, SP.pick, SP.is, SP.box, id_eq, List.take_succ_cons, List.take_zero, List.drop_succ_cons, List.drop_zero, List.setIfInBounds_toArray, List.set_cons_zero, List.set_cons_succ]); refine growOp_go ?_; go_simp; refine (sBkOk _ _ _ _ _ _ _ _ _ _).mono ?_; rintro e w5 ⟨rfl, hb⟩; rw [HO.out]; first | exact ⟨rfl, hb⟩ | exact ⟨_, rfl, hb, rfl⟩)) | (apply Chain.quiet; · (intro vs wq hEq hd; obtain ⟨hcq, hfq⟩ := bcell hEq; have HE := Lib.hid hEq; clear hEq hd; (try simp only [Act.put, SP.pick, SP.is, SP.box, id_eq, List.take_succ_cons, List.take_zero, List.drop_succ_cons, List.drop_zero, List.setIfInBounds_toArray, List.set_cons_zero, List.set_cons_succ]); refine growOp_go ?_; go_simp; refine (iRw _ _ _ _).mono ?_; rintro e w5 ⟨rfl, hb⟩; rw [hrw.out]; first | exact ⟨rfl, hb⟩ | exact ⟨_, rfl, hb, rfl⟩)))
        refine Chain.done ?_
        intro vs w14 hE14 hd14
        simp only [Act.put, SP.pick, SP.is, SP.box, id_eq, List.take_succ_cons, List.take_zero, List.drop_succ_cons, List.drop_zero, List.setIfInBounds_toArray, List.set_cons_zero, List.set_cons_succ]
        clear hd14
        have E14 := Lib.hid (Ext.trans E12.out hE14)
        clear hE14
        go_wp2_with fail
        go_ret
        exact ⟨rfl, E14.out⟩
end Go.Proofs.Ytkmklafjcjkpdaa
