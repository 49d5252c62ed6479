/- The law on the order of a queue. -/
import Derived.Test.YtkmklafjcjkpdaaQuE
import Derived.Test.YtkmklafjcjkpdaaQuL
import Derived.Test.YtkmklafjcjkpdaaAtA
import Derived.Test.YtkmklafjcjkpdaaLs
import Derived.Test.YtkmklafjcjkpdaaSam
namespace Go.Proofs.Ytkmklafjcjkpdaa
open Go.RowKit
set_option linter.unusedVariables false
set_option linter.unusedSimpArgs false
/-- A value that is a queue of its own. -/
def SP.tqW (n : Nat) (d : Int) (l : List Msg) : SP :=
  { p := fun v w => ∃ A c B C, v = .agg #[.slice A n c, .int .i64 d] ∧ Own kMsg w B C A l
    st := fun v w w' hE ⟨A, c, B, C, h1, h2⟩ => ⟨A, c, B, C, h1, h2.ext hE⟩ }
theorem own_box {w : World} {B C gb j : Nat} {A : Option Addr} {l : List Msg} {a : Option Addr} {b c : Nat} (h : Own kMsg w B C A l) (hb : w.cell? ⟨gb, 0, none⟩ = some (.slice a b c)) (u : Value) : Own kMsg (w.setCell ⟨gb, j, none⟩ u) B C A l := by
  rcases h with h | ⟨G, es, cs, T, h1, h2, h3, h4, h5, h6, h7⟩
  · exact .inl h
  · by_cases h0 : es = []
    · subst h0
      exact .inl (by simpa using h7.symm)
    · obtain ⟨e, es', rfl⟩ := List.exists_cons_of_ne_nil h0
      have hne : gb ≠ G := by
        intro h
        subst h
        have h8 := h5 0 (.int .i64 e.x.to) (by simp [rowOf, El.cells, kMsg])
        obtain ⟨q1, _, _⟩ := blk_cells h4
        rw [q1, h8] at hb
        cases hb
      refine .inr ⟨G, e :: es', cs, T, h1, h2, h3, by rw [Below.heap_setCell _ _ _ _ (by simpa using hne.symm)]; exact h4, h5, ⟨fun e' he' => (h6.1 e' he').keep fun h0 => ?_, h6.2⟩, h7⟩
      obtain ⟨_, _, q⟩ := h6.1 e' he'
      obtain ⟨_, _, _, _, cs', T', q5, q6⟩ := q.resolve_left h0
      refine Below.heap_setCell _ _ _ _ ?_
      intro h
      simp only at h
      rw [h] at q5
      have q7 : cs'[0]? = some (Value.int .u8 ((kMsg.bd e'.x).head h0)) := q6 0 _ (by rw [List.head_eq_getElem h0, List.getElem?_eq_getElem])
      obtain ⟨q1, _, _⟩ := blk_cells q5
      rw [q1, q7] at hb
      cases hb
theorem app_els {w : World} {B : Nat} {X : Nat → Prop} {T : TypeId} {A : Option Addr} {n c : Nat} {l : List Msg} (h : AppR kMsg T w B X (.slice A n c) l) : Els w A 4 (kE kMsg) l := by
  obtain ⟨A', c', hv, -, -, hO, -⟩ := h.own
  injection hv with q1 q2 q3
  subst q1
  exact hO.els
set_option maxRecDepth 8000 in
set_option maxHeartbeats 8000000 in
theorem walk_FnQueueOrder (a0 : Option Addr) (n0 c0 : Nat) (w : World) (r0 : Rd Try.prog w 22 [.slice a0 n0 c0]) :
    Calls Try.prog 7 #[.slice a0 n0 c0] w fun e w' => e = .returned (.bool true) ∧ Below w.heap.size w w' := by
  obtain ⟨l0, hn, hr, hb, hm⟩ := view_code r0
  clear r0
  by_cases hbig : (1048576 : Int) < n0
  · go_enter Try.func7, Try.ntmps7
    go_wp2_with fail
    refine (big_ _ _ _ _ hm).mono ?_
    rintro e w' ⟨rfl, rfl⟩
    rw [decide_eq_true hbig]
    go_wp2_with fail
    go_ret
    exact ⟨rfl, Below.refl _ _⟩
  · have hn01 : n0 ≤ 1048576 := by omega
    go_enter Try.func7, Try.ntmps7
    go_wp2_with fail
    refine (big_ _ _ _ _ hm).mono ?_
    rintro e w' ⟨rfl, rfl⟩
    rw [decide_eq_false (by omega)]
    go_wp2_with fail
    refine (sDrawNext _ _ _ _ l0 hn hr hb hn01).mono ?_
    rintro e w1 ⟨A, c, l, d, rfl, hQ, hA, hE⟩
    have e2 := Ext.alloc_ w1 (.cells #[.slice A l.length c, .int .i64 d] 55)
    have b2 := Lib.hid (new_blk1 w1 #[.slice A l.length c, .int .i64 d] 55)
    have E2 := Lib.hid (Ext.trans hE e2)
    have L2 := Lib.hid (els_up (app_els hA) e2)
    have HQ := Lib.hid hQ
    have H0 := Lib.hid hn
    have HR := Lib.hid hr
    have HY := Lib.hid hb
    have hN13 : l.length ≤ 13 := hQ.1
    obtain ⟨N, hN⟩ : ∃ N, N = l.length := ⟨_, rfl⟩
    have HN := Lib.hid hN
    rw [← hN] at b2 E2 L2 hN13 ⊢
    have HB := Lib.hid (fun m hm => Nat.le_trans (hQ.2.2 m hm).2 (by decide) : ∀ m ∈ l, m.body.length ≤ 1048576)
    clear hn hr hb hm hbig hE e2 hA hQ hN
    go_wp2_with fail
    generalize World.alloc w1 _ = w2 at *
    generalize w1.heap.size = gq at *
    refine (iNext _ A N c d l HN.out.symm L2.out (by omega)).mono ?_
    rintro e w3 ⟨rfl, h3⟩
    have E3 := Lib.hid (Ext.trans E2.out h3)
    have b3 := Lib.hid (ext_blk h3 b2.out)
    have L3 := Lib.hid (els_up L2.out h3)
    clear h3 E2 b2 L2
    obtain ⟨x1, x2, x3⟩ := blk_cells b3.out
    have p0 := x1 0
    have p1 := x1 1
    simp at p0 p1
    clear x1
    by_cases hN0 : N = 0
    · subst hN0
      have hl : l = [] := List.eq_nil_of_length_eq_zero HN.out.symm
      rw [show nxt l l.length = -1 by rw [hl]; rfl]
      have hk : tkB l 0 = false := by rw [hl]; rfl
      have HK := Lib.hid hk
      clear hk hl
      go_wp2_with fail
      refine (iTake _ A 0 c d 0 l HN.out.symm L3.out HB.out (by omega)).mono ?_
      rintro e w4 ⟨A', c', g, Am, cm, rfl, h4, -, -⟩
      rw [HK.out]
      have E4 := Lib.hid (Ext.trans E3.out h4)
      clear h4
      go_wp2_with fail
      go_ret
      refine ⟨rfl, ?_⟩
      repeat (first | exact E4.out | refine Ext.trans ?_ (Ext.alloc_ _ _))
    · obtain ⟨bk, hbk, -, hnx, hbest⟩ := nxt_best l l.length (Nat.le_refl _) (by have := HN.out; omega)
      rw [hnx]
      have HX := Lib.hid hbest
      have hbN : bk < N := by have := HN.out; omega
      have hb0 : (0 : Int) ≤ (bk : Int) := by omega
      have hb1 : (bk : Int) < (N : Int) := by omega
      have hN1 : (N : Int) ≠ 0 := by omega
      clear hbest hnx
      have hNb : ¬ N ≤ bk := by omega
      go_wp2_with fail
      go_loopw [8] (fun i wr => ∃ j : Nat, j ≤ N ∧ i = .int .i64 j ∧ Hid (Ext w3 wr)) (fun i _ => N - (intOf i).toNat)
      case atStart => exact ⟨0, Nat.zero_le _, rfl, Lib.hid (Ext.refl _)⟩
      case round =>
        clear p0 p1 x2 x3
        obtain ⟨j, hj, rfl, hE⟩ := hrel
        have b4 := Lib.hid (ext_blk hE.out b3.out)
        have L4 := Lib.hid (els_up L3.out hE.out)
        have E4 := Lib.hid (Ext.trans E3.out hE.out)
        obtain ⟨x1, x2, x3⟩ := blk_cells b4.out
        have p0 := x1 0
        have p1 := x1 1
        simp at p0 p1
        clear x1
        by_cases hlt : j < N
        · have hjl : j < l.length := by have := HN.out; omega
          obtain ⟨b1, o1, rfl, h5, h6⟩ := L4.out.at_ (List.ne_nil_of_length_pos (by omega))
          obtain ⟨_, _, _, _, k1, _, _⟩ := els_msg h6 j hjl
          obtain ⟨_, _, _, _, m1, _, _⟩ := els_msg h6 bk hbk
          have hx := HX.out j hjl (by omega)
          generalize l[j].cat = x at *
          generalize l[bk].cat = y at *
          have hlt' : (j : Int) < (N : Int) := by omega
          have hj0 : (0 : Int) ≤ (j : Int) := by omega
          have hxy : ¬ y < x := by omega
          by_cases hjb : j < bk
          · have hne : x ≠ y := by have := hx.2 hjb; omega
            have hjb' : (j : Int) < (bk : Int) := by omega
            have hv1 : decide (y < x) = false := decide_eq_false hxy
            have hv2 : (x == y) = false := by simpa using hne
            clear h6 hx
            go_wp2_with fail
            refine wp_region_chain 33 (by kernel_rfl) (by kernel_rfl) ?_
            simp only [List.take_succ_cons, List.take_zero, List.drop_succ_cons, List.drop_zero]
            iterate 12 (apply Chain.quiet; · (intro vs wq hEq hd; obtain ⟨hcq, hfq⟩ := bcell hEq; clear hEq hd; (try simp only [Act.put, SP.pick, SP.is, SP.box, id_eq, List.take_succ_cons, List.take_zero, List.drop_succ_cons, List.drop_zero, List.setIfInBounds_toArray, List.set_cons_zero, List.set_cons_succ]); refine growOp_go ?_; go_simp; first | exact ⟨Ext.refl _, rfl⟩ | exact rfl | (split; (exfalso; omega); (first | exact ⟨Ext.refl _, rfl⟩ | exact rfl)) | (split; (first | exact ⟨Ext.refl _, rfl⟩ | exact rfl); (exfalso; omega))))
            (refine Chain.quiet (V := .bool false) ?_ ?_; · (intro vs wq hEq hd; obtain ⟨hcq, hfq⟩ := bcell hEq; clear hEq hd; (try simp only [Act.put, SP.pick, SP.is, SP.box, id_eq, List.take_succ_cons, List.take_zero, List.drop_succ_cons, List.drop_zero, List.setIfInBounds_toArray, List.set_cons_zero, List.set_cons_succ]); refine growOp_go ?_; go_simp; first | exact Ext.refl _ | exact ⟨Ext.refl _, rfl⟩ | (refine ⟨Ext.refl _, ?_⟩; first | omega | (simp; omega) | (simp; done))))
            iterate 17 (apply Chain.quiet; · (intro vs wq hEq hd; obtain ⟨hcq, hfq⟩ := bcell hEq; clear hEq hd; (try simp only [Act.put, SP.pick, SP.is, SP.box, id_eq, List.take_succ_cons, List.take_zero, List.drop_succ_cons, List.drop_zero, List.setIfInBounds_toArray, List.set_cons_zero, List.set_cons_succ]); refine growOp_go ?_; go_simp; first | exact ⟨Ext.refl _, rfl⟩ | exact rfl | (split; (exfalso; omega); (first | exact ⟨Ext.refl _, rfl⟩ | exact rfl)) | (split; (first | exact ⟨Ext.refl _, rfl⟩ | exact rfl); (exfalso; omega))))
            (refine Chain.quiet (V := .bool false) ?_ ?_; · (intro vs wq hEq hd; obtain ⟨hcq, hfq⟩ := bcell hEq; clear hEq hd; (try simp only [Act.put, SP.pick, SP.is, SP.box, id_eq, List.take_succ_cons, List.take_zero, List.drop_succ_cons, List.drop_zero, List.setIfInBounds_toArray, List.set_cons_zero, List.set_cons_succ]); refine growOp_go ?_; go_simp; first | exact Ext.refl _ | exact ⟨Ext.refl _, rfl⟩ | (refine ⟨Ext.refl _, ?_⟩; first | omega | (simp; omega) | (simp; done))))
            iterate 2 (apply Chain.quiet; · (intro vs wq hEq hd; obtain ⟨hcq, hfq⟩ := bcell hEq; clear hEq hd; (try simp only [Act.put, SP.pick, SP.is, SP.box, id_eq, List.take_succ_cons, List.take_zero, List.drop_succ_cons, List.drop_zero, List.setIfInBounds_toArray, List.set_cons_zero, List.set_cons_succ]); refine growOp_go ?_; go_simp; first | exact ⟨Ext.refl _, rfl⟩ | exact rfl | (split; (exfalso; omega); (first | exact ⟨Ext.refl _, rfl⟩ | exact rfl)) | (split; (first | exact ⟨Ext.refl _, rfl⟩ | exact rfl); (exfalso; omega))))
            refine Chain.done ?_
            intro vs w5 hE5 hd5
            simp only [Act.put, SP.pick, SP.is, SP.box, id_eq, List.take_succ_cons, List.take_zero, List.drop_succ_cons, List.drop_zero, List.setIfInBounds_toArray, List.set_cons_zero, List.set_cons_succ]
            clear hd5
            have E5 := Lib.hid (Ext.trans hE.out hE5)
            clear hE5
            go_wp2_with fail
            go_roundw
            case rel => exact ⟨j + 1, by omega, by go_num, E5⟩
            case measure => simp [intOf]; omega
          · have hjb' : ¬ (j : Int) < (bk : Int) := by omega
            have hv1 : decide (y < x) = false := decide_eq_false hxy
            have hv2 : (false || false) = false := rfl
            clear h6 hx
            go_wp2_with fail
            refine wp_region_chain 33 (by kernel_rfl) (by kernel_rfl) ?_
            simp only [List.take_succ_cons, List.take_zero, List.drop_succ_cons, List.drop_zero]
            iterate 12 (apply Chain.quiet; · (intro vs wq hEq hd; obtain ⟨hcq, hfq⟩ := bcell hEq; clear hEq hd; (try simp only [Act.put, SP.pick, SP.is, SP.box, id_eq, List.take_succ_cons, List.take_zero, List.drop_succ_cons, List.drop_zero, List.setIfInBounds_toArray, List.set_cons_zero, List.set_cons_succ]); refine growOp_go ?_; go_simp; first | exact ⟨Ext.refl _, rfl⟩ | exact rfl | (split; (exfalso; omega); (first | exact ⟨Ext.refl _, rfl⟩ | exact rfl)) | (split; (first | exact ⟨Ext.refl _, rfl⟩ | exact rfl); (exfalso; omega))))
            (refine Chain.quiet (V := .bool false) ?_ ?_; · (intro vs wq hEq hd; obtain ⟨hcq, hfq⟩ := bcell hEq; clear hEq hd; (try simp only [Act.put, SP.pick, SP.is, SP.box, id_eq, List.take_succ_cons, List.take_zero, List.drop_succ_cons, List.drop_zero, List.setIfInBounds_toArray, List.set_cons_zero, List.set_cons_succ]); refine growOp_go ?_; go_simp; first | exact Ext.refl _ | exact ⟨Ext.refl _, rfl⟩ | (refine ⟨Ext.refl _, ?_⟩; first | omega | (simp; omega) | (simp; done))))
            iterate 3 (apply Chain.quiet; · (intro vs wq hEq hd; obtain ⟨hcq, hfq⟩ := bcell hEq; clear hEq hd; (try simp only [Act.put, SP.pick, SP.is, SP.box, id_eq, List.take_succ_cons, List.take_zero, List.drop_succ_cons, List.drop_zero, List.setIfInBounds_toArray, List.set_cons_zero, List.set_cons_succ]); refine growOp_go ?_; go_simp; first | exact ⟨Ext.refl _, rfl⟩ | exact rfl | (split; (exfalso; omega); (first | exact ⟨Ext.refl _, rfl⟩ | exact rfl)) | (split; (first | exact ⟨Ext.refl _, rfl⟩ | exact rfl); (exfalso; omega))))
            (refine Chain.quiet (V := .bool false) ?_ ?_; · (intro vs wq hEq hd; obtain ⟨hcq, hfq⟩ := bcell hEq; clear hEq hd; (try simp only [Act.put, SP.pick, SP.is, SP.box, id_eq, List.take_succ_cons, List.take_zero, List.drop_succ_cons, List.drop_zero, List.setIfInBounds_toArray, List.set_cons_zero, List.set_cons_succ]); refine growOp_go ?_; go_simp; first | exact Ext.refl _ | exact ⟨Ext.refl _, rfl⟩ | (refine ⟨Ext.refl _, ?_⟩; first | omega | (simp; omega) | (simp; done))))
            iterate 16 (apply Chain.quiet; · (intro vs wq hEq hd; obtain ⟨hcq, hfq⟩ := bcell hEq; clear hEq hd; (try simp only [Act.put, SP.pick, SP.is, SP.box, id_eq, List.take_succ_cons, List.take_zero, List.drop_succ_cons, List.drop_zero, List.setIfInBounds_toArray, List.set_cons_zero, List.set_cons_succ]); refine growOp_go ?_; go_simp; first | exact ⟨Ext.refl _, rfl⟩ | exact rfl | (split; (exfalso; omega); (first | exact ⟨Ext.refl _, rfl⟩ | exact rfl)) | (split; (first | exact ⟨Ext.refl _, rfl⟩ | exact rfl); (exfalso; omega))))
            refine Chain.done ?_
            intro vs w5 hE5 hd5
            simp only [Act.put, SP.pick, SP.is, SP.box, id_eq, List.take_succ_cons, List.take_zero, List.drop_succ_cons, List.drop_zero, List.setIfInBounds_toArray, List.set_cons_zero, List.set_cons_succ]
            clear hd5
            have E5 := Lib.hid (Ext.trans hE.out hE5)
            clear hE5
            go_wp2_with fail
            go_roundw
            case rel => exact ⟨j + 1, by omega, by go_num, E5⟩
            case measure => simp [intOf]; omega
        · have hlt' : ¬ (j : Int) < (N : Int) := by omega
          obtain ⟨M, hM⟩ : ∃ M : Nat, (M : Int) = (N : Int) - 1 := ⟨N - 1, by omega⟩
          have HMN := Lib.hid hM
          clear hM
          have hk1 := Lib.hid (show tkB l bk = true from decide_eq_true ⟨by omega, by have := HN.out; omega⟩)
          have hk2 := Lib.hid (tkM_get hbk)
          have hk3 := Lib.hid (show (tkL l bk).length = M by unfold tkL; rw [if_pos ⟨by omega, by have := HN.out; omega⟩, Int.toNat_natCast, List.length_eraseIdx_of_lt hbk]; have := HN.out; have := HMN.out; omega)
          obtain ⟨m, hmm⟩ : ∃ m, m = l[bk] := ⟨_, rfl⟩
          have hml := HB.out _ (List.getElem_mem hbk)
          rw [← hmm] at hml
          have HM := Lib.hid hmm
          clear hmm
          go_wp2_with fail
          refine (iTake _ A N c d bk l HN.out.symm L4.out HB.out (by omega)).mono ?_
          rintro e w5 ⟨A', c', g, Am, cm, rfl, h5, -, hNB⟩
          rw [hk1.out, hk2.out, hk3.out, ← HM.out]
          rw [hk2.out, ← HM.out] at hNB
          have e6 := Ext.trans (Ext.alloc_ w5 (.cells #[.slice A' M c', .int .i64 d] 55)) (Ext.alloc_ _ (.cells #[.int .i64 m.to, .int .i64 m.cat, .int .i64 m.dl, .slice Am m.body.length cm] 59))
          have E6 := Lib.hid (Ext.trans E4.out (Ext.trans h5 e6))
          have bX := Lib.hid (ext_blk (Ext.alloc_ _ (.cells #[.int .i64 m.to, .int .i64 m.cat, .int .i64 m.dl, .slice Am m.body.length cm] 59)) (new_blk1 w5 #[.slice A' M c', .int .i64 d] 55))
          have bM := new_blk1 (w5.alloc (.cells #[.slice A' M c', .int .i64 d] 55)) #[.int .i64 m.to, .int .i64 m.cat, .int .i64 m.dl, .slice Am m.body.length cm] 59
          simp only [World.size_alloc] at bM
          have bM' := Lib.hid bM
          clear bM
          have b6 := Lib.hid (ext_blk (Ext.trans h5 e6) b4.out)
          have L6 := Lib.hid (els_up L4.out (Ext.trans h5 e6))
          have R6 := Lib.hid ((hNB.ext e6).rb)
          clear p0 p1 x2 x3
          clear h5 e6 hNB hk1 hk2 hk3 b4 L4 E4 hE hlt'
          go_wp2_with fail
          generalize World.alloc (World.alloc w5 _) _ = w6 at *
          generalize w5.heap.size = gx at *
          have HR6 := Lib.hid (HR.out.ext E6.out)
          obtain ⟨z, hz⟩ : ∃ z, z = (atV l0 0).tmod 25 := ⟨_, rfl⟩
          have HZ := Lib.hid hz
          clear hz
          obtain ⟨x1, x2, x3⟩ := blk_cells b6.out
          have p0 := x1 0
          have p1 := x1 1
          simp at p0 p1
          clear x1
          refine wp_region_chain 6 (by kernel_rfl) (by kernel_rfl) ?_
          simp only [List.take_succ_cons, List.take_zero, List.drop_succ_cons, List.drop_zero]
          iterate 2 (apply Chain.quiet; · (intro vs wq hEq hd; obtain ⟨hcq, hfq⟩ := bcell hEq; clear hEq hd; (try simp only [Act.put, SP.pick, SP.is, SP.box, id_eq, List.take_succ_cons, List.take_zero, List.drop_succ_cons, List.drop_zero, List.setIfInBounds_toArray, List.set_cons_zero, List.set_cons_succ]); refine growOp_go ?_; go_simp; first | exact ⟨Ext.refl _, rfl⟩ | exact rfl | (split; (exfalso; omega); (first | exact ⟨Ext.refl _, rfl⟩ | exact rfl)) | (split; (first | exact ⟨Ext.refl _, rfl⟩ | exact rfl); (exfalso; omega))))
          (apply Chain.quiet; · (intro vs wq hEq hd; have hRq := Lib.hid (HR6.out.ext hEq); clear hEq hd; (try simp only [Act.put, SP.pick, SP.is, SP.box, id_eq, List.take_succ_cons, List.take_zero, List.drop_succ_cons, List.drop_zero, List.setIfInBounds_toArray, List.set_cons_zero, List.set_cons_succ]); refine growOp_go ?_; go_simp; refine (at_ _ _ _ _ l0 0 _ rfl H0.out hRq.out HY.out hn01 (by decide)).mono ?_; rintro e w5 ⟨rfl, rfl⟩; first | exact ⟨rfl, Ext.refl _⟩ | exact ⟨_, rfl, Ext.refl _, rfl⟩))
          (refine Chain.quiet (V := .int .i64 z) ?_ ?_; · (intro vs wq hEq hd; obtain ⟨hcq, hfq⟩ := bcell hEq; clear hEq hd; (try simp only [Act.put, SP.pick, SP.is, SP.box, id_eq, List.take_succ_cons, List.take_zero, List.drop_succ_cons, List.drop_zero, List.setIfInBounds_toArray, List.set_cons_zero, List.set_cons_succ]); refine growOp_go ?_; go_simp; first | exact Ext.refl _ | exact ⟨Ext.refl _, HZ.out.symm⟩ | (refine ⟨Ext.refl _, ?_⟩; rw [HZ.out]; first | done | rfl)))
          refine Chain.sp (SP.tqW (keepM z l).length (dropM z d l) (keepM z l)) ?_ ?_
          · intro vs wq hEq hd
            have L7 := Lib.hid (els_up L6.out hEq)
            clear hEq hd
            (try simp only [Act.put, SP.pick, SP.is, SP.box, id_eq, List.take_succ_cons, List.take_zero, List.drop_succ_cons, List.drop_zero, List.setIfInBounds_toArray, List.set_cons_zero, List.set_cons_succ])
            refine growOp_go ?_
            go_simp
            refine (iExpM _ A N c d z l HN.out.symm L7.out HB.out (by omega)).mono ?_
            rintro e w7 ⟨A7, c7, rfl, h7, hO7⟩
            exact ⟨_, rfl, h7, A7, c7, _, _, rfl, hO7⟩
          refine Chain.sp (SP.box w6.heap.size #[.slice none 0 0, .int .i64 0] 55) ?_ ?_
          · intro vs wq hEq hd
            have hzz := hEq.size
            clear hd
            (try simp only [Act.put, SP.pick, SP.is, SP.box, id_eq, List.take_succ_cons, List.take_zero, List.drop_succ_cons, List.drop_zero, List.setIfInBounds_toArray, List.set_cons_zero, List.set_cons_succ])
            refine growOp_go ?_
            go_simp
            exact ⟨Ext.alloc_ _ _, (Array.getElem?_eq_some_iff.1 (new_blk1 wq _ _)).2⟩
          refine Chain.done ?_
          intro vs w7 hE7 hd7
          simp only [Act.put, SP.pick, SP.is, SP.box, id_eq, List.take_succ_cons, List.take_zero, List.drop_succ_cons, List.drop_zero, List.setIfInBounds_toArray, List.set_cons_zero, List.set_cons_succ]
          obtain ⟨A7, c7, B7, C7, e7, O7⟩ := hd7 4
          obtain ⟨gb, eb, hgb, bb⟩ := hd7 5
          rw [e7, eb]
          simp only [SP.tqW, SP.box, id_eq]
          clear hd7 e7 eb p0 p1 x2 x3
          obtain ⟨KN, hKN⟩ : ∃ n, n = (keepM z l).length := ⟨_, rfl⟩
          obtain ⟨DD, hDD⟩ : ∃ x, x = dropM z d l := ⟨_, rfl⟩
          rw [← hKN, ← hDD]
          have hdk := drop_keep (now := z) (d := d) (l := l) ⟨HQ.out.2.1.1, by have := HQ.out.2.1.2; omega⟩ (by have := HN.out; omega)
          have hkc := keep_cnt z l
          have hKl : KN ≤ 13 := by have := HN.out; omega
          have HK := Lib.hid hKN
          have HDD := Lib.hid (show DD - d = (N : Int) - KN by rw [hDD, hdk, hKN, HN.out])
          clear hKN hDD hdk hkc
          obtain ⟨q1, q2, q3⟩ := blk_cells bb
          have hgw : w.heap.size ≤ gb := Nat.le_trans E6.out.size hgb
          have F8 := Lib.hid ((hE7.setCell_ (p := ⟨gb, 0, none⟩) hgb (.slice A7 KN c7)).setCell_ (p := ⟨gb, 1, none⟩) hgb (.int .i64 DD))
          have O8 := Lib.hid (own_box (j := 1) (own_box (j := 0) O7 (by rw [q1]; rfl) (.slice A7 KN c7)) (by have := (blk_cells (blk_set bb 0 (.slice A7 KN c7))).1 0; simpa using this) (.int .i64 DD))
          have b8 := Lib.hid (show ((w7.setCell ⟨gb, 0, none⟩ (.slice A7 KN c7)).setCell ⟨gb, 1, none⟩ (.int .i64 DD)).heap[gb]? = some (.cells #[.slice A7 KN c7, .int .i64 DD] 55 (0, 0)) from blk_set (blk_set bb 0 _) 1 _)
          have c0 := q1 0
          have c1 := q1 1
          simp at c0 c1
          clear hE7 O7 bb q1
          go_wp2_with fail
          generalize World.setCell (World.setCell w7 _ _) _ _ = w8 at *
          clear c0 c1 q2 q3
          go_loopw [13] (fun i wr => ∃ j : Nat, j ≤ KN ∧ i = .int .i64 j ∧ Hid (Ext w8 wr)) (fun i _ => KN - (intOf i).toNat)
          case atStart => exact ⟨0, Nat.zero_le _, rfl, Lib.hid (Ext.refl _)⟩
          case round =>
            obtain ⟨j2, hj2, rfl, hE9⟩ := hrel
            have b9 := Lib.hid (ext_blk hE9.out b8.out)
            obtain ⟨x1, x2, x3⟩ := blk_cells b9.out
            have p0 := x1 0
            have p1 := x1 1
            simp at p0 p1
            clear x1
            by_cases hlt2 : j2 < KN
            · have hjl : j2 < (keepM z l).length := by rw [← HK.out]; exact hlt2
              have hdl := keep_dl hjl
              obtain ⟨b1, o1, rfl, h5, h6⟩ := (els_up O8.out.els hE9.out).at_ (List.ne_nil_of_length_pos (by omega))
              obtain ⟨_, _, _, _, _, k2, _⟩ := els_msg h6 j2 hjl
              generalize (keepM z l)[j2].dl = x at *
              have hlt' : (j2 : Int) < (KN : Int) := by omega
              have hj0 : (0 : Int) ≤ (j2 : Int) := by omega
              have HR9 := Lib.hid (HR6.out.ext (Ext.trans F8.out hE9.out))
              clear h6
              go_wp2_with fail
              refine wp_region_chain 10 (by kernel_rfl) (by kernel_rfl) ?_
              simp only [List.take_succ_cons, List.take_zero, List.drop_succ_cons, List.drop_zero]
              iterate 7 (apply Chain.quiet; · (intro vs wq hEq hd; obtain ⟨hcq, hfq⟩ := bcell hEq; clear hEq hd; (try simp only [Act.put, SP.pick, SP.is, SP.box, id_eq, List.take_succ_cons, List.take_zero, List.drop_succ_cons, List.drop_zero, List.setIfInBounds_toArray, List.set_cons_zero, List.set_cons_succ]); refine growOp_go ?_; go_simp; first | exact ⟨Ext.refl _, rfl⟩ | exact rfl | (split; (exfalso; omega); (first | exact ⟨Ext.refl _, rfl⟩ | exact rfl)) | (split; (first | exact ⟨Ext.refl _, rfl⟩ | exact rfl); (exfalso; omega))))
              (apply Chain.quiet; · (intro vs wq hEq hd; have hRq := Lib.hid (HR9.out.ext hEq); clear hEq hd; (try simp only [Act.put, SP.pick, SP.is, SP.box, id_eq, List.take_succ_cons, List.take_zero, List.drop_succ_cons, List.drop_zero, List.setIfInBounds_toArray, List.set_cons_zero, List.set_cons_succ]); refine growOp_go ?_; go_simp; refine (at_ _ _ _ _ l0 0 _ rfl H0.out hRq.out HY.out hn01 (by decide)).mono ?_; rintro e w5 ⟨rfl, rfl⟩; first | exact ⟨rfl, Ext.refl _⟩ | exact ⟨_, rfl, Ext.refl _, rfl⟩))
              (refine Chain.quiet (V := .int .i64 z) ?_ ?_; · (intro vs wq hEq hd; obtain ⟨hcq, hfq⟩ := bcell hEq; clear hEq hd; (try simp only [Act.put, SP.pick, SP.is, SP.box, id_eq, List.take_succ_cons, List.take_zero, List.drop_succ_cons, List.drop_zero, List.setIfInBounds_toArray, List.set_cons_zero, List.set_cons_succ]); refine growOp_go ?_; go_simp; first | exact Ext.refl _ | exact ⟨Ext.refl _, HZ.out.symm⟩ | (refine ⟨Ext.refl _, ?_⟩; rw [HZ.out]; first | done | rfl)))
              (refine Chain.quiet (V := .bool false) ?_ ?_; · (intro vs wq hEq hd; obtain ⟨hcq, hfq⟩ := bcell hEq; clear hEq hd; (try simp only [Act.put, SP.pick, SP.is, SP.box, id_eq, List.take_succ_cons, List.take_zero, List.drop_succ_cons, List.drop_zero, List.setIfInBounds_toArray, List.set_cons_zero, List.set_cons_succ]); refine growOp_go ?_; go_simp; first | exact Ext.refl _ | exact ⟨Ext.refl _, rfl⟩ | (refine ⟨Ext.refl _, ?_⟩; first | omega | (simp; omega) | (simp; done))))
              refine Chain.done ?_
              intro vs w5 hE5 hd5
              simp only [Act.put, SP.pick, SP.is, SP.box, id_eq, List.take_succ_cons, List.take_zero, List.drop_succ_cons, List.drop_zero, List.setIfInBounds_toArray, List.set_cons_zero, List.set_cons_succ]
              clear hd5
              have E5 := Lib.hid (Ext.trans hE9.out hE5)
              clear hE5
              go_wp2_with fail
              go_roundw
              case rel => exact ⟨j2 + 1, by omega, by go_num, E5⟩
              case measure => simp [intOf]; omega
            · have hlt' : ¬ (j2 : Int) < (KN : Int) := by omega
              have E9 := Lib.hid (Ext.trans F8.out hE9.out)
              have hw2 : IntKind.i64.wrap ((N : Int) - 1) = (M : Int) := by rw [← HMN.out]; exact IntWalk.i64_in _ (by have := HMN.out; omega)
              obtain ⟨y, hw3⟩ : ∃ y, IntKind.i64.wrap (DD - d) = y := ⟨_, rfl⟩
              have hw4 : IntKind.i64.wrap ((N : Int) - (KN : Int)) = y := by rw [← HDD.out]; exact hw3
              obtain ⟨y1, y2, y3⟩ := blk_cells (ext_blk E9.out bX.out)
              have q0 := y1 0
              have q1 := y1 1
              simp at q0 q1
              clear y1
              obtain ⟨v1, v2, v3⟩ := blk_cells (ext_blk E9.out bM'.out)
              have r0 := v1 0
              have r1 := v1 1
              have r2 := v1 2
              have r3 := v1 3
              simp at r0 r1 r2 r3
              clear v1
              obtain ⟨z1, z2, z3⟩ := blk_cells (ext_blk E9.out b6.out)
              have s0 := z1 0
              have s1 := z1 1
              simp at s0 s1
              clear z1
              obtain ⟨b1, o1, rfl, h5, h6⟩ := (els_up L6.out E9.out).at_ (List.ne_nil_of_length_pos (by omega))
              obtain ⟨B2, cB2, hR2, m0, m1, m2, m3⟩ := els_msg h6 bk hbk
              rw [← HM.out] at hR2 m0 m1 m2 m3
              have R1 := Lib.hid (R6.out.ext E9.out)
              have R2 := Lib.hid hR2
              clear h6 hR2
              go_wp2_with fail
              refine wp_region_chain 43 (by kernel_rfl) (by kernel_rfl) ?_
              simp only [List.take_succ_cons, List.take_zero, List.drop_succ_cons, List.drop_zero]
              repeat (first | (apply Chain.quiet; · (intro vs wq hEq hd; obtain ⟨hcq, hfq⟩ := bcell hEq; clear hEq hd; (try simp only [Act.put, SP.pick, SP.is, SP.box, id_eq, List.take_succ_cons, List.take_zero, List.drop_succ_cons, List.drop_zero, List.setIfInBounds_toArray, List.set_cons_zero, List.set_cons_succ]); refine growOp_go ?_; go_simp; first | exact ⟨Ext.refl _, rfl⟩ | exact rfl | (split; (exfalso; omega); (first | exact ⟨Ext.refl _, rfl⟩ | exact rfl)) | (split; (first | exact ⟨Ext.refl _, rfl⟩ | exact rfl); (exfalso; omega)))) | (apply Chain.quiet; · (intro vs wq hEq hd; have hR1 := Lib.hid (R1.out.ext hEq); have hR2 := Lib.hid (R2.out.ext hEq); clear hEq hd; (try simp only [Act.put, SP.pick, SP.is, SP.box, id_eq, List.take_succ_cons, List.take_zero, List.drop_succ_cons, List.drop_zero, List.setIfInBounds_toArray, List.set_cons_zero, List.set_cons_succ]); refine growOp_go ?_; go_simp; refine (sameM_ _ _ _ _ _ _ _ _ _ _ rfl hR1.out hR2.out hml).mono ?_; rintro e w5 ⟨rfl, hb⟩; first | exact ⟨rfl, hb⟩ | exact ⟨_, rfl, hb, rfl⟩)))
              refine Chain.done ?_
              intro vs w5 hE5 hd5
              simp only [Act.put, SP.pick, SP.is, SP.box, id_eq, List.take_succ_cons, List.take_zero, List.drop_succ_cons, List.drop_zero, List.setIfInBounds_toArray, List.set_cons_zero, List.set_cons_succ]
              clear hd5
              have E5 := Lib.hid (Ext.trans E6.out (Ext.trans E9.out hE5))
              clear hE5
              go_wp2_with fail
              go_ret
              exact ⟨by first | rfl | simp, E5.out⟩
end Go.Proofs.Ytkmklafjcjkpdaa
