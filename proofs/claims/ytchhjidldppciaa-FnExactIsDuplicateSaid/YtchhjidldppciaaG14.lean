/- The law on duplicates. -/
import Derived.Test.YtchhjidldppciaaG13
import Derived.Test.YtchhjidldppciaaMac
namespace Go.Proofs.Ytchhjidldppciaa
open Go.RowKit
set_option linter.unusedVariables false
set_option linter.unusedSimpArgs false

def dupB (l : List Seen) (fm sq fr : Int) (re : Bool) (ca : Int) : Bool := re && (match l[(fnd l fm ca).toNat]? with
  | none => false
  | some s => decide (0 ≤ fnd l fm ca) && s.sq == sq && s.fr == fr)
theorem dupB_no {l : List Seen} {fm sq fr : Int} {re : Bool} {ca : Int} (h : fnd l fm ca = -1) : dupB l fm sq fr re ca = false := by
  unfold dupB
  rw [h]
  cases l <;> simp
theorem dupB_at {l : List Seen} {fm sq fr : Int} {re : Bool} {ca : Int} {i : Nat} (hi : i < l.length) (h : fnd l fm ca = i) : dupB l fm sq fr re ca = (re && (l[i].sq == sq && l[i].fr == fr)) := by
  unfold dupB
  rw [h, Int.toNat_natCast, List.getElem?_eq_getElem hi]
  simp
set_option maxHeartbeats 1600000 in
theorem sDup (w : World) (A : Option Addr) (n c : Nat) (l : List Seen) (kd fm to sq fr : Int) (mo re : Bool) (du : Int) (A' : Option Addr) (n' c' : Nat) (ca : Int) (hn : l.length = n) (hM : Els w A 4 (kE kSeen) l) (hl : n ≤ 1048576) :
    Calls Try.prog 50 #[.slice A n c, .agg #[.int .i64 kd, .int .i64 fm, .int .i64 to, .int .i64 sq, .int .i64 fr, .bool mo, .bool re, .int .i64 du, .slice A' n' c'], .int .i64 ca] w fun e w' => e = .returned (.bool (dupB l fm sq fr re ca)) ∧ Below w.heap.size w w' := by
  subst hn
  have H1 := Lib.hid hM
  clear hM
  rcases fnd_range l fm ca with hq | ⟨i, hi, hq, -, -⟩
  · have hF := Lib.hid (dupB_no (sq := sq) (fr := fr) (re := re) hq)
    have hq' := Lib.hid hq
    clear hq
    cases re
    all_goals
      go_enter Try.func50, Try.ntmps50
      go_wp2_with fail
      refine (sFind _ _ _ _ l _ _ rfl (els_up H1.out (Ext.alloc_ _ _)) (by omega)).mono ?_
      rintro e w1 ⟨rfl, hb1⟩
      rw [hq'.out]
      obtain ⟨hc1, hf1⟩ := bcell (hb1)
      have hz1 : w.heap.size < w1.heap.size := Ext.lt_alloc hb1
      go_wp2_with fail
      go_quiet (fail)
      go_wp2_with fail
      go_ret
      exact ⟨(by rw [hF.out]; first | done | rfl), Ext.drewN_ (Ext.trans (Ext.alloc_ _ _) hb1) _⟩
  · have hF := Lib.hid (dupB_at (sq := sq) (fr := fr) (re := re) hi hq)
    have hq' := Lib.hid hq
    clear hq
    cases re
    · go_enter Try.func50, Try.ntmps50
      go_wp2_with fail
      refine (sFind _ _ _ _ l _ _ rfl (els_up H1.out (Ext.alloc_ _ _)) (by omega)).mono ?_
      rintro e w1 ⟨rfl, hb1⟩
      rw [hq'.out]
      obtain ⟨hc1, hf1⟩ := bcell (hb1)
      have hz1 : w.heap.size < w1.heap.size := Ext.lt_alloc hb1
      go_wp2_with fail
      go_quiet (fail)
      go_wp2_with fail
      go_ret
      exact ⟨(by rw [hF.out]; first | done | rfl), Ext.drewN_ (Ext.trans (Ext.alloc_ _ _) hb1) _⟩
    · by_cases h1 : l[i].sq = sq
      · by_cases h2 : l[i].fr = fr
        · have hF2 := Lib.hid (show dupB l fm sq fr true ca = true by rw [hF.out, h1, h2]; simp)
          go_enter Try.func50, Try.ntmps50
          go_wp2_with fail
          refine (sFind _ _ _ _ l _ _ rfl (els_up H1.out (Ext.alloc_ _ _)) (by omega)).mono ?_
          rintro e w1 ⟨rfl, hb1⟩
          rw [hq'.out]
          obtain ⟨hc1, hf1⟩ := bcell (hb1)
          have hz1 : w.heap.size < w1.heap.size := Ext.lt_alloc hb1
          obtain ⟨b, off, rfl, hb, hc⟩ := (els_up (els_up H1.out (Ext.alloc_ _ _)) hb1).at_ (List.ne_nil_of_length_pos (by omega))
          obtain ⟨k0, k1, k2, k3⟩ := els_seen hc i hi
          clear hc
          go_wp2_with fail
          go_quiet (fail)
          go_wp2_with fail
          go_ret
          exact ⟨(by rw [hF2.out]; first | done | rfl), Ext.drewN_ (Ext.trans (Ext.alloc_ _ _) hb1) _⟩
        · have hF2 := Lib.hid (show dupB l fm sq fr true ca = false by rw [hF.out, h1]; simp [h2])
          have h2b : (l[i].fr == fr) = false := by simpa using h2
          go_enter Try.func50, Try.ntmps50
          go_wp2_with fail
          refine (sFind _ _ _ _ l _ _ rfl (els_up H1.out (Ext.alloc_ _ _)) (by omega)).mono ?_
          rintro e w1 ⟨rfl, hb1⟩
          rw [hq'.out]
          obtain ⟨hc1, hf1⟩ := bcell (hb1)
          have hz1 : w.heap.size < w1.heap.size := Ext.lt_alloc hb1
          obtain ⟨b, off, rfl, hb, hc⟩ := (els_up (els_up H1.out (Ext.alloc_ _ _)) hb1).at_ (List.ne_nil_of_length_pos (by omega))
          obtain ⟨k0, k1, k2, k3⟩ := els_seen hc i hi
          clear hc
          go_wp2_with fail
          go_quiet (fail)
          go_wp2_with fail
          go_ret
          exact ⟨(by rw [hF2.out]; first | done | rfl), Ext.drewN_ (Ext.trans (Ext.alloc_ _ _) hb1) _⟩
      · have hF2 := Lib.hid (show dupB l fm sq fr true ca = false by rw [hF.out]; simp [h1])
        have h1b : (l[i].sq == sq) = false := by simpa using h1
        go_enter Try.func50, Try.ntmps50
        go_wp2_with fail
        refine (sFind _ _ _ _ l _ _ rfl (els_up H1.out (Ext.alloc_ _ _)) (by omega)).mono ?_
        rintro e w1 ⟨rfl, hb1⟩
        rw [hq'.out]
        obtain ⟨hc1, hf1⟩ := bcell (hb1)
        have hz1 : w.heap.size < w1.heap.size := Ext.lt_alloc hb1
        obtain ⟨b, off, rfl, hb, hc⟩ := (els_up (els_up H1.out (Ext.alloc_ _ _)) hb1).at_ (List.ne_nil_of_length_pos (by omega))
        obtain ⟨k0, k1, k2, k3⟩ := els_seen hc i hi
        clear hc
        go_wp2_with fail
        go_quiet (fail)
        go_wp2_with fail
        go_ret
        exact ⟨(by rw [hF2.out]; first | done | rfl), Ext.drewN_ (Ext.trans (Ext.alloc_ _ _) hb1) _⟩
set_option maxHeartbeats 1600000 in
theorem iDup (w : World) (A : Option Addr) (n c : Nat) (l : List Seen) (kd fm to sq fr : Int) (mo re : Bool) (du : Int) (A' : Option Addr) (n' c' : Nat) (ca : Int) (hn : l.length = n) (hM : Els w A 4 (kE kSeen) l) (hl : n ≤ 1048576) :
    Calls Try.prog 52 #[.slice A n c, .agg #[.int .i64 kd, .int .i64 fm, .int .i64 to, .int .i64 sq, .int .i64 fr, .bool mo, .bool re, .int .i64 du, .slice A' n' c'], .int .i64 ca] w fun e w' => e = .returned (.bool (dupB l fm sq fr re ca)) ∧ Below w.heap.size w w' := by
  subst hn
  have H1 := Lib.hid hM
  clear hM
  rcases fnd_range l fm ca with hq | ⟨i, hi, hq, -, -⟩
  · have hF := Lib.hid (dupB_no (sq := sq) (fr := fr) (re := re) hq)
    have hq' := Lib.hid hq
    clear hq
    cases re
    all_goals
      go_enter Try.func52, Try.ntmps52
      go_wp2_with fail
      refine (iFind _ _ _ _ l _ _ rfl (els_up H1.out (Ext.alloc_ _ _)) (by omega)).mono ?_
      rintro e w1 ⟨rfl, hb1⟩
      rw [hq'.out]
      obtain ⟨hc1, hf1⟩ := bcell (hb1)
      have hz1 : w.heap.size < w1.heap.size := Ext.lt_alloc hb1
      go_wp2_with fail
      go_quiet (fail)
      go_wp2_with fail
      go_ret
      exact ⟨(by rw [hF.out]; first | done | rfl), Ext.drewN_ (Ext.trans (Ext.alloc_ _ _) hb1) _⟩
  · have hF := Lib.hid (dupB_at (sq := sq) (fr := fr) (re := re) hi hq)
    have hq' := Lib.hid hq
    clear hq
    cases re
    · go_enter Try.func52, Try.ntmps52
      go_wp2_with fail
      refine (iFind _ _ _ _ l _ _ rfl (els_up H1.out (Ext.alloc_ _ _)) (by omega)).mono ?_
      rintro e w1 ⟨rfl, hb1⟩
      rw [hq'.out]
      obtain ⟨hc1, hf1⟩ := bcell (hb1)
      have hz1 : w.heap.size < w1.heap.size := Ext.lt_alloc hb1
      go_wp2_with fail
      go_quiet (fail)
      go_wp2_with fail
      go_ret
      exact ⟨(by rw [hF.out]; first | done | rfl), Ext.drewN_ (Ext.trans (Ext.alloc_ _ _) hb1) _⟩
    · by_cases h1 : l[i].sq = sq
      · by_cases h2 : l[i].fr = fr
        · have hF2 := Lib.hid (show dupB l fm sq fr true ca = true by rw [hF.out, h1, h2]; simp)
          go_enter Try.func52, Try.ntmps52
          go_wp2_with fail
          refine (iFind _ _ _ _ l _ _ rfl (els_up H1.out (Ext.alloc_ _ _)) (by omega)).mono ?_
          rintro e w1 ⟨rfl, hb1⟩
          rw [hq'.out]
          obtain ⟨hc1, hf1⟩ := bcell (hb1)
          have hz1 : w.heap.size < w1.heap.size := Ext.lt_alloc hb1
          obtain ⟨b, off, rfl, hb, hc⟩ := (els_up (els_up H1.out (Ext.alloc_ _ _)) hb1).at_ (List.ne_nil_of_length_pos (by omega))
          obtain ⟨k0, k1, k2, k3⟩ := els_seen hc i hi
          clear hc
          go_wp2_with fail
          go_quiet (fail)
          go_wp2_with fail
          go_ret
          exact ⟨(by rw [hF2.out]; first | done | rfl), Ext.drewN_ (Ext.trans (Ext.alloc_ _ _) hb1) _⟩
        · have hF2 := Lib.hid (show dupB l fm sq fr true ca = false by rw [hF.out, h1]; simp [h2])
          have h2b : (l[i].fr == fr) = false := by simpa using h2
          go_enter Try.func52, Try.ntmps52
          go_wp2_with fail
          refine (iFind _ _ _ _ l _ _ rfl (els_up H1.out (Ext.alloc_ _ _)) (by omega)).mono ?_
          rintro e w1 ⟨rfl, hb1⟩
          rw [hq'.out]
          obtain ⟨hc1, hf1⟩ := bcell (hb1)
          have hz1 : w.heap.size < w1.heap.size := Ext.lt_alloc hb1
          obtain ⟨b, off, rfl, hb, hc⟩ := (els_up (els_up H1.out (Ext.alloc_ _ _)) hb1).at_ (List.ne_nil_of_length_pos (by omega))
          obtain ⟨k0, k1, k2, k3⟩ := els_seen hc i hi
          clear hc
          go_wp2_with fail
          go_quiet (fail)
          go_wp2_with fail
          go_ret
          exact ⟨(by rw [hF2.out]; first | done | rfl), Ext.drewN_ (Ext.trans (Ext.alloc_ _ _) hb1) _⟩
      · have hF2 := Lib.hid (show dupB l fm sq fr true ca = false by rw [hF.out]; simp [h1])
        have h1b : (l[i].sq == sq) = false := by simpa using h1
        go_enter Try.func52, Try.ntmps52
        go_wp2_with fail
        refine (iFind _ _ _ _ l _ _ rfl (els_up H1.out (Ext.alloc_ _ _)) (by omega)).mono ?_
        rintro e w1 ⟨rfl, hb1⟩
        rw [hq'.out]
        obtain ⟨hc1, hf1⟩ := bcell (hb1)
        have hz1 : w.heap.size < w1.heap.size := Ext.lt_alloc hb1
        obtain ⟨b, off, rfl, hb, hc⟩ := (els_up (els_up H1.out (Ext.alloc_ _ _)) hb1).at_ (List.ne_nil_of_length_pos (by omega))
        obtain ⟨k0, k1, k2, k3⟩ := els_seen hc i hi
        clear hc
        go_wp2_with fail
        go_quiet (fail)
        go_wp2_with fail
        go_ret
        exact ⟨(by rw [hF2.out]; first | done | rfl), Ext.drewN_ (Ext.trans (Ext.alloc_ _ _) hb1) _⟩
/-- A value that reads as a frame. -/
def SP.mac (kd fm to sq fr : Int) (mo re : Bool) (du : Int) (n : Nat) (l : List Int) : SP :=
  { p := fun v w => ∃ A c, v = .agg #[.int .i64 kd, .int .i64 fm, .int .i64 to, .int .i64 sq, .int .i64 fr, .bool mo, .bool re, .int .i64 du, .slice A n c] ∧ RB w A c l
    st := fun v w w' hE ⟨A, c, h1, h2⟩ => ⟨A, c, h1, h2.ext hE⟩ }
theorem walk_FnExactIsDuplicate (a0 : Option Addr) (n0 c0 : Nat) (a1 : Array Value) (a2 : Int) (w : World) (r0 : Rd Try.prog w 28 [.slice a0 n0 c0]) (r1 : Rd Try.prog w 66 (Value.agg a1).cells.toList) (w2 : (Lit.int .i64 a2).wf = true) :
    Calls Try.prog 13 #[.slice a0 n0 c0, .agg a1, .int .i64 a2] w fun e w' => e = .returned (.bool true) ∧ Below w.heap.size w w' := by
  obtain ⟨l, hn, hM, hm⟩ := view_seen r0
  obtain ⟨⟨kd, fm, to, sq, fr, mo, re, du, bd⟩, ⟨A, c, hcs, hr⟩, hbm⟩ := mac_rd r1
  obtain ⟨cs⟩ := a1
  simp only [Value.cells] at hcs
  subst hcs
  clear r0 r1
  simp only [kMac] at *
  obtain ⟨n, hn1⟩ : ∃ n, bd.length = n := ⟨_, rfl⟩
  rw [hn1] at hbm ⊢
  have hn1' := Lib.hid hn1
  have hn' := Lib.hid hn
  have hm' := Lib.hid hm
  have hbm' := Lib.hid hbm
  have hM' := Lib.hid hM
  have hr' := Lib.hid hr
  clear hn hn1 hm hbm hM hr w2
  by_cases hbig : (1048576 : Int) < (n0 : Int)
  · go_enter Try.func13, Try.ntmps13
    go_wp2_with fail
    refine (szSeenS_ _ _ _ _ ⟨by omega, by omega⟩ hm'.out _).mono ?_
    rintro e w1 ⟨rfl, rfl⟩
    rw [if_pos hbig]
    go_wp2_with fail
    go_ret
    exact ⟨rfl, Ext.alloc_ _ _⟩
  · have hl : n0 ≤ 1048576 := by omega
    by_cases hbig1 : (1048576 - n0 : Int) < (n : Int)
    · go_enter Try.func13, Try.ntmps13
      go_wp2_with fail
      refine (szSeenS_ _ _ _ _ ⟨by omega, by omega⟩ hm'.out _).mono ?_
      rintro e w1 ⟨rfl, rfl⟩
      rw [if_neg (by omega)]
      go_wp2_with fail
      refine (szMac_ _ _ _ _ _ _ _ _ _ _ _ _ _ ⟨by omega, by omega⟩ hbm'.out).mono ?_
      rintro e w1 ⟨rfl, hb1⟩
      rw [if_pos hbig1]
      go_wp2_with fail
      go_ret
      exact ⟨rfl, Ext.trans (Ext.alloc_ _ _) hb1⟩
    · have hl1 : n ≤ 1048576 := by omega
      go_enter Try.func13, Try.ntmps13
      go_wp2_with fail
      refine (szSeenS_ _ _ _ _ ⟨by omega, by omega⟩ hm'.out _).mono ?_
      rintro e w1 ⟨rfl, rfl⟩
      rw [if_neg (by omega)]
      go_wp2_with fail
      refine (szMac_ _ _ _ _ _ _ _ _ _ _ _ _ _ ⟨by omega, by omega⟩ hbm'.out).mono ?_
      rintro e w1 ⟨rfl, hb1⟩
      rw [if_neg (by omega)]
      have hE1 := Lib.hid (Ext.trans (Ext.alloc_ _ _) hb1)
      have hy := Lib.hid (ext_blk hb1 (new_blk1 w _ _))
      obtain ⟨hy1, hy2, hy3⟩ := blk_cells hy.out
      clear hb1
      go_wp2_with fail
      refine wp_region_chain 6 (by kernel_rfl) (by kernel_rfl) ?_
      simp only [List.take_succ_cons, List.take_zero, List.drop_succ_cons, List.drop_zero]
      (apply Chain.quiet; · (intro vs wq hEq hd; obtain ⟨hcq, hfq⟩ := bcell hEq; clear hEq hd; (try simp only [Act.put, SP.pick, SP.is, SP.box, id_eq, List.take_succ_cons, List.take_zero, List.drop_succ_cons, List.drop_zero, List.setIfInBounds_toArray, List.set_cons_zero, List.set_cons_succ]); refine growOp_go ?_; go_simp; exact ⟨Ext.refl _, rfl⟩))
      refine Chain.sp (SP.seen n0 l) ?_ ?_
      · intro vs wq hE hd
        clear hd
        (try simp only [Act.put, SP.pick, SP.is, SP.box, id_eq, List.take_succ_cons, List.take_zero, List.drop_succ_cons, List.drop_zero, List.setIfInBounds_toArray, List.set_cons_zero, List.set_cons_succ])
        refine growOp_go ?_
        go_simp
        refine (toSeenS_ _ _ _ _ l hn'.out (els_up hM'.out (Ext.trans hE1.out hE)) hl).mono ?_
        rintro e w6 ⟨rfl, hE6, hO6⟩
        exact ⟨_, rfl, hE6, _, _, rfl, hO6.els⟩
      (apply Chain.quiet; · (intro vs wq hEq hd; obtain ⟨hcq, hfq⟩ := bcell hEq; clear hEq hd; (try simp only [Act.put, SP.pick, SP.is, SP.box, id_eq, List.take_succ_cons, List.take_zero, List.drop_succ_cons, List.drop_zero, List.setIfInBounds_toArray, List.set_cons_zero, List.set_cons_succ]); refine growOp_go ?_; go_simp; exact ⟨Ext.refl _, rfl⟩))
      refine Chain.sp (SP.mac kd fm to sq fr mo re du n bd) ?_ ?_
      · intro vs wq hE hd
        clear hd
        (try simp only [Act.put, SP.pick, SP.is, SP.box, id_eq, List.take_succ_cons, List.take_zero, List.drop_succ_cons, List.drop_zero, List.setIfInBounds_toArray, List.set_cons_zero, List.set_cons_succ])
        refine growOp_go ?_
        go_simp
        refine (toMac_ _ _ _ _ _ _ _ _ _ _ _ _ bd hn1'.out (hr'.out.ext (Ext.trans hE1.out hE)) hl1).mono ?_
        rintro e w6 ⟨g6, rfl, hE6, -, hk6⟩
        refine ⟨_, rfl, hE6, _, _, rfl, ?_⟩
        have := rb_blk hk6
        rw [hn1'.out] at this
        exact this
      (apply Chain.quiet; · (intro vs wq hEq hd; obtain ⟨hcq, hfq⟩ := bcell hEq; clear hEq hd; (try simp only [Act.put, SP.pick, SP.is, SP.box, id_eq, List.take_succ_cons, List.take_zero, List.drop_succ_cons, List.drop_zero, List.setIfInBounds_toArray, List.set_cons_zero, List.set_cons_succ]); refine growOp_go ?_; go_simp; exact ⟨Ext.refl _, rfl⟩))
      apply Chain.quiet
      · intro vs wq hE hd
        obtain ⟨A6, c6, e6, R6⟩ := hd 1 (by kernel_rfl)
        obtain ⟨A7, c7, e7, R7⟩ := hd 3 (by kernel_rfl)
        clear hd
        simp only [Act.put, SP.pick, SP.is, SP.box, id_eq, List.take_succ_cons, List.take_zero, List.drop_succ_cons, List.drop_zero, List.setIfInBounds_toArray, List.set_cons_zero, List.set_cons_succ]
        rw [e6, e7]
        refine growOp_go ?_
        clear e6 e7
        go_simp
        refine (sDup _ _ _ _ l _ _ _ _ _ _ _ _ _ _ _ _ hn'.out R6 hl).mono ?_
        rintro e w7 ⟨rfl, hb7⟩
        first | exact ⟨rfl, hb7⟩ | exact ⟨_, rfl, hb7, rfl⟩
      refine Chain.done ?_
      intro vs w2 hE2 hd2
      simp only [Act.put, SP.pick, SP.is, SP.box, id_eq, List.take_succ_cons, List.take_zero, List.drop_succ_cons, List.drop_zero, List.setIfInBounds_toArray, List.set_cons_zero, List.set_cons_succ]
      clear hd2
      obtain ⟨hz1, hz2, hz3⟩ := blk_cells (ext_blk hE2 hy.out)
      have hE2' := Lib.hid (Ext.trans hE1.out hE2)
      have hy' := Lib.hid (ext_blk hE2 hy.out)
      clear hy1 hy2 hy3 hE2
      go_wp2_with fail
      refine (toSeenS_ _ _ _ _ l hn'.out (els_up hM'.out hE2'.out) hl).mono ?_
      rintro e w3 ⟨rfl, hE3, hO3⟩
      have hM3 := Lib.hid hO3.els
      obtain ⟨hx1, hx2, hx3⟩ := blk_cells (ext_blk hE3 hy'.out)
      have hE3' := Lib.hid (Ext.trans hE2'.out hE3)
      have hx' := Lib.hid (ext_blk hE3 hy'.out)
      clear hO3 hE3 hz1 hz2 hz3
      go_wp2_with fail
      refine (toMac_ _ _ _ _ _ _ _ _ _ _ _ _ bd hn1'.out (hr'.out.ext hE3'.out) hl1).mono ?_
      rintro e w4 ⟨g4, rfl, hE4, -, hk4⟩
      have R4 := Lib.hid (rb_blk hk4)
      rw [hn1'.out] at R4
      have hE4' := Lib.hid (Ext.trans hE3'.out hE4)
      have hM4 := Lib.hid (els_up hM3.out (Ext.trans hE4 (Ext.alloc_ _ (.cells #[.int .i64 kd, .int .i64 fm, .int .i64 to, .int .i64 sq, .int .i64 fr, .bool mo, .bool re, .int .i64 du, .slice (some ⟨g4, 0, none⟩) n n] 69))))
      have hx4 := Lib.hid (ext_blk (Ext.trans hE4 (Ext.alloc_ _ (.cells #[.int .i64 kd, .int .i64 fm, .int .i64 to, .int .i64 sq, .int .i64 fr, .bool mo, .bool re, .int .i64 du, .slice (some ⟨g4, 0, none⟩) n n] 69))) hx'.out)
      have hx5 := Lib.hid (new_blk1 w4 #[.int .i64 kd, .int .i64 fm, .int .i64 to, .int .i64 sq, .int .i64 fr, .bool mo, .bool re, .int .i64 du, .slice (some ⟨g4, 0, none⟩) n n] 69)
      clear hk4 hE4 hx1 hx2 hx3
      go_wp2_with fail
      refine (iDup _ _ _ _ l _ _ _ _ _ _ _ _ _ _ _ _ hn'.out hM4.out hl).mono ?_
      rintro e w5 ⟨rfl, hb5⟩
      have hE5 := Lib.hid (Ext.trans (Ext.trans hE4'.out (Ext.alloc_ _ _)) hb5)
      have hM5 := Lib.hid (els_up hM4.out hb5)
      have R5 := Lib.hid (R4.out.ext (Ext.trans (Ext.alloc_ _ _) hb5))
      have hm5 := Lib.hid (ext_blk hb5 hx4.out)
      have hn5 := Lib.hid (ext_blk hb5 hx5.out)
      clear hb5
      go_wp2_with fail
      refine (toSeenS_ _ _ _ _ l hn'.out (els_up hM'.out hE5.out) hl).mono ?_
      rintro e w6 ⟨rfl, hE6, hO6⟩
      have hM6 := Lib.hid hO6.els
      have hM6' := Lib.hid (els_up hM5.out hE6)
      have hE6' := Lib.hid hE6
      clear hO6 hE6
      go_wp2_with fail
      refine (eqSeenS_ _ _ _ _ _ _ l hn'.out hM6'.out hM6.out hl).mono ?_
      rintro e w7 ⟨rfl, hb7⟩
      have hE7 := Lib.hid (Ext.trans hE5.out (Ext.trans hE6'.out hb7))
      have R7 := Lib.hid (R5.out.ext (Ext.trans hE6'.out hb7))
      have hm7 := Lib.hid (ext_blk (Ext.trans hE6'.out hb7) hm5.out)
      have hn7 := Lib.hid (ext_blk (Ext.trans hE6'.out hb7) hn5.out)
      obtain ⟨hc1, hc2, hc3⟩ := blk_cells hm7.out
      obtain ⟨hd1, hd2, hd3⟩ := blk_cells hn7.out
      clear hb7
      go_wp2_with fail
      refine wp_region_chain 5 (by kernel_rfl) (by kernel_rfl) ?_
      simp only [List.take_succ_cons, List.take_zero, List.drop_succ_cons, List.drop_zero]
      repeat (apply Chain.quiet; · (intro vs wq hEq hd; obtain ⟨hcq, hfq⟩ := bcell hEq; clear hEq hd; (try simp only [Act.put, SP.pick, SP.is, SP.box, id_eq, List.take_succ_cons, List.take_zero, List.drop_succ_cons, List.drop_zero, List.setIfInBounds_toArray, List.set_cons_zero, List.set_cons_succ]); refine growOp_go ?_; go_simp; exact ⟨Ext.refl _, rfl⟩))
      refine Chain.sp (SP.mac kd fm to sq fr mo re du n bd) ?_ ?_
      · intro vs wq hE hd
        clear hd
        (try simp only [Act.put, SP.pick, SP.is, SP.box, id_eq, List.take_succ_cons, List.take_zero, List.drop_succ_cons, List.drop_zero, List.setIfInBounds_toArray, List.set_cons_zero, List.set_cons_succ])
        refine growOp_go ?_
        go_simp
        refine (toMac_ _ _ _ _ _ _ _ _ _ _ _ _ bd hn1'.out (hr'.out.ext (Ext.trans hE7.out hE)) hl1).mono ?_
        rintro e w6 ⟨g6, rfl, hE6, -, hk6⟩
        refine ⟨_, rfl, hE6, _, _, rfl, ?_⟩
        have := rb_blk hk6
        rw [hn1'.out] at this
        exact this
      apply Chain.quiet
      · intro vs wq hE hd
        obtain ⟨A7, c7, e7, Q7⟩ := hd 2 (by kernel_rfl)
        clear hd
        simp only [Act.put, SP.pick, SP.is, SP.box, id_eq, List.take_succ_cons, List.take_zero, List.drop_succ_cons, List.drop_zero, List.setIfInBounds_toArray, List.set_cons_zero, List.set_cons_succ]
        rw [e7]
        refine growOp_go ?_
        clear e7
        go_simp
        refine (eqMac_ _ _ _ _ _ _ _ _ _ _ _ _ _ _ bd hn1'.out (R7.out.ext hE) Q7 hl1).mono ?_
        rintro e w7 ⟨rfl, hb7⟩
        first | exact ⟨rfl, hb7⟩ | exact ⟨_, rfl, hb7, rfl⟩
      (apply Chain.quiet; · (intro vs wq hEq hd; obtain ⟨hcq, hfq⟩ := bcell hEq; clear hEq hd; (try simp only [Act.put, SP.pick, SP.is, SP.box, id_eq, List.take_succ_cons, List.take_zero, List.drop_succ_cons, List.drop_zero, List.setIfInBounds_toArray, List.set_cons_zero, List.set_cons_succ]); refine growOp_go ?_; go_simp; exact ⟨Ext.refl _, rfl⟩))
      refine Chain.done ?_
      intro vs w8 hE8 hd8
      simp only [Act.put, SP.pick, SP.is, SP.box, id_eq, List.take_succ_cons, List.take_zero, List.drop_succ_cons, List.drop_zero, List.setIfInBounds_toArray, List.set_cons_zero, List.set_cons_succ]
      clear hd8
      go_wp2_with fail
      go_ret
      exact ⟨rfl, Ext.trans hE7.out hE8⟩
end Go.Proofs.Ytchhjidldppciaa
