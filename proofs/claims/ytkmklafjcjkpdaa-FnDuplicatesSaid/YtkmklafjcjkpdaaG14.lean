/- The law on duplicates. -/
import Derived.Test.YtkmklafjcjkpdaaG13
import Derived.Test.YtkmklafjcjkpdaaMac
namespace Go.Proofs.Ytkmklafjcjkpdaa
open Go.RowKit
set_option linter.unusedVariables false
set_option linter.unusedSimpArgs false

def dupB (l : List Seen) (fm sq fr : Int) (re : Bool) (ca : Int) : Bool := re && (match l[(fnd l fm ca).toNat]? with
  | none => false
  | some s => decide (0 ≤ fnd l fm ca) && s.sq == sq && s.fr == fr)
theorem dupB_no {l : List Seen} {fm sq fr : Int} {re : Bool} {ca : Int} (h : fnd l fm ca = -1) : dupB l fm sq fr re ca = false := by
  unfold dupB
  rw [h]
  cases l <;> simp
theorem dupB_at {l : List Seen} {fm sq fr : Int} {re : Bool} {ca : Int} {i : Nat} (hi : i < l.length) (h : fnd l fm ca = i) : dupB l fm sq fr re ca = (re && (l[i].sq == sq && l[i].fr == fr)) := by
  unfold dupB
  rw [h, Int.toNat_natCast, List.getElem?_eq_getElem hi]
  simp
set_option maxHeartbeats 1600000 in
theorem sDup (w : World) (A : Option Addr) (n c : Nat) (l : List Seen) (kd fm to sq fr : Int) (mo re : Bool) (du : Int) (A' : Option Addr) (n' c' : Nat) (ca : Int) (hn : l.length = n) (hM : Els w A 4 (kE kSeen) l) (hl : n ≤ 1048576) :
    Calls Try.prog 46 #[.slice A n c, .agg #[.int .i64 kd, .int .i64 fm, .int .i64 to, .int .i64 sq, .int .i64 fr, .bool mo, .bool re, .int .i64 du, .slice A' n' c'], .int .i64 ca] w fun e w' => e = .returned (.bool (dupB l fm sq fr re ca)) ∧ Below w.heap.size w w' := by
  subst hn
  have H1 := Lib.hid hM
  clear hM
  rcases fnd_range l fm ca with hq | ⟨i, hi, hq, -, -⟩
  · have hF := Lib.hid (dupB_no (sq := sq) (fr := fr) (re := re) hq)
    have hq' := Lib.hid hq
    clear hq
    cases re
    all_goals
      go_enter Try.func46, Try.ntmps46
      go_wp2_with fail
      refine (sFind _ _ _ _ l _ _ rfl (els_up H1.out (Ext.alloc_ _ _)) (by omega)).mono ?_
      rintro e w1 ⟨rfl, hb1⟩
      rw [hq'.out]
      obtain ⟨hc1, hf1⟩ := bcell (hb1)
      have hz1 : w.heap.size < w1.heap.size := Ext.lt_alloc hb1
      go_wp2_with fail
      go_quiet (fail)
      go_wp2_with fail
      go_ret
      exact ⟨(by rw [hF.out]; first | done | rfl), Ext.drewN_ (Ext.trans (Ext.alloc_ _ _) hb1) _⟩
  · have hF := Lib.hid (dupB_at (sq := sq) (fr := fr) (re := re) hi hq)
    have hq' := Lib.hid hq
    clear hq
    cases re
    · go_enter Try.func46, Try.ntmps46
      go_wp2_with fail
      refine (sFind _ _ _ _ l _ _ rfl (els_up H1.out (Ext.alloc_ _ _)) (by omega)).mono ?_
      rintro e w1 ⟨rfl, hb1⟩
      rw [hq'.out]
      obtain ⟨hc1, hf1⟩ := bcell (hb1)
      have hz1 : w.heap.size < w1.heap.size := Ext.lt_alloc hb1
      go_wp2_with fail
      go_quiet (fail)
      go_wp2_with fail
      go_ret
      exact ⟨(by rw [hF.out]; first | done | rfl), Ext.drewN_ (Ext.trans (Ext.alloc_ _ _) hb1) _⟩
    · by_cases h1 : l[i].sq = sq
      · by_cases h2 : l[i].fr = fr
        · have hF2 := Lib.hid (show dupB l fm sq fr true ca = true by rw [hF.out, h1, h2]; simp)
          go_enter Try.func46, Try.ntmps46
          go_wp2_with fail
          refine (sFind _ _ _ _ l _ _ rfl (els_up H1.out (Ext.alloc_ _ _)) (by omega)).mono ?_
          rintro e w1 ⟨rfl, hb1⟩
          rw [hq'.out]
          obtain ⟨hc1, hf1⟩ := bcell (hb1)
          have hz1 : w.heap.size < w1.heap.size := Ext.lt_alloc hb1
          obtain ⟨b, off, rfl, hb, hc⟩ := (els_up (els_up H1.out (Ext.alloc_ _ _)) hb1).at_ (List.ne_nil_of_length_pos (by omega))
          obtain ⟨k0, k1, k2, k3⟩ := els_seen hc i hi
          clear hc
          go_wp2_with fail
          go_quiet (fail)
          go_wp2_with fail
          go_ret
          exact ⟨(by rw [hF2.out]; first | done | rfl), Ext.drewN_ (Ext.trans (Ext.alloc_ _ _) hb1) _⟩
        · have hF2 := Lib.hid (show dupB l fm sq fr true ca = false by rw [hF.out, h1]; simp [h2])
          have h2b : (l[i].fr == fr) = false := by simpa using h2
          go_enter Try.func46, Try.ntmps46
          go_wp2_with fail
          refine (sFind _ _ _ _ l _ _ rfl (els_up H1.out (Ext.alloc_ _ _)) (by omega)).mono ?_
          rintro e w1 ⟨rfl, hb1⟩
          rw [hq'.out]
          obtain ⟨hc1, hf1⟩ := bcell (hb1)
          have hz1 : w.heap.size < w1.heap.size := Ext.lt_alloc hb1
          obtain ⟨b, off, rfl, hb, hc⟩ := (els_up (els_up H1.out (Ext.alloc_ _ _)) hb1).at_ (List.ne_nil_of_length_pos (by omega))
          obtain ⟨k0, k1, k2, k3⟩ := els_seen hc i hi
          clear hc
          go_wp2_with fail
          go_quiet (fail)
          go_wp2_with fail
          go_ret
          exact ⟨(by rw [hF2.out]; first | done | rfl), Ext.drewN_ (Ext.trans (Ext.alloc_ _ _) hb1) _⟩
      · have hF2 := Lib.hid (show dupB l fm sq fr true ca = false by rw [hF.out]; simp [h1])
        have h1b : (l[i].sq == sq) = false := by simpa using h1
        go_enter Try.func46, Try.ntmps46
        go_wp2_with fail
        refine (sFind _ _ _ _ l _ _ rfl (els_up H1.out (Ext.alloc_ _ _)) (by omega)).mono ?_
        rintro e w1 ⟨rfl, hb1⟩
        rw [hq'.out]
        obtain ⟨hc1, hf1⟩ := bcell (hb1)
        have hz1 : w.heap.size < w1.heap.size := Ext.lt_alloc hb1
        obtain ⟨b, off, rfl, hb, hc⟩ := (els_up (els_up H1.out (Ext.alloc_ _ _)) hb1).at_ (List.ne_nil_of_length_pos (by omega))
        obtain ⟨k0, k1, k2, k3⟩ := els_seen hc i hi
        clear hc
        go_wp2_with fail
        go_quiet (fail)
        go_wp2_with fail
        go_ret
        exact ⟨(by rw [hF2.out]; first | done | rfl), Ext.drewN_ (Ext.trans (Ext.alloc_ _ _) hb1) _⟩
set_option maxHeartbeats 1600000 in
theorem iDup (w : World) (A : Option Addr) (n c : Nat) (l : List Seen) (kd fm to sq fr : Int) (mo re : Bool) (du : Int) (A' : Option Addr) (n' c' : Nat) (ca : Int) (hn : l.length = n) (hM : Els w A 4 (kE kSeen) l) (hl : n ≤ 1048576) :
    Calls Try.prog 47 #[.slice A n c, .agg #[.int .i64 kd, .int .i64 fm, .int .i64 to, .int .i64 sq, .int .i64 fr, .bool mo, .bool re, .int .i64 du, .slice A' n' c'], .int .i64 ca] w fun e w' => e = .returned (.bool (dupB l fm sq fr re ca)) ∧ Below w.heap.size w w' := by
  subst hn
  have H1 := Lib.hid hM
  clear hM
  rcases fnd_range l fm ca with hq | ⟨i, hi, hq, -, -⟩
  · have hF := Lib.hid (dupB_no (sq := sq) (fr := fr) (re := re) hq)
    have hq' := Lib.hid hq
    clear hq
    cases re
    all_goals
      go_enter Try.func47, Try.ntmps47
      go_wp2_with fail
      refine (iFind _ _ _ _ l _ _ rfl (els_up H1.out (Ext.alloc_ _ _)) (by omega)).mono ?_
      rintro e w1 ⟨rfl, hb1⟩
      rw [hq'.out]
      obtain ⟨hc1, hf1⟩ := bcell (hb1)
      have hz1 : w.heap.size < w1.heap.size := Ext.lt_alloc hb1
      go_wp2_with fail
      go_quiet (fail)
      go_wp2_with fail
      go_ret
      exact ⟨(by rw [hF.out]; first | done | rfl), Ext.drewN_ (Ext.trans (Ext.alloc_ _ _) hb1) _⟩
  · have hF := Lib.hid (dupB_at (sq := sq) (fr := fr) (re := re) hi hq)
    have hq' := Lib.hid hq
    clear hq
    cases re
    · go_enter Try.func47, Try.ntmps47
      go_wp2_with fail
      refine (iFind _ _ _ _ l _ _ rfl (els_up H1.out (Ext.alloc_ _ _)) (by omega)).mono ?_
      rintro e w1 ⟨rfl, hb1⟩
      rw [hq'.out]
      obtain ⟨hc1, hf1⟩ := bcell (hb1)
      have hz1 : w.heap.size < w1.heap.size := Ext.lt_alloc hb1
      go_wp2_with fail
      go_quiet (fail)
      go_wp2_with fail
      go_ret
      exact ⟨(by rw [hF.out]; first | done | rfl), Ext.drewN_ (Ext.trans (Ext.alloc_ _ _) hb1) _⟩
    · by_cases h1 : l[i].sq = sq
      · by_cases h2 : l[i].fr = fr
        · have hF2 := Lib.hid (show dupB l fm sq fr true ca = true by rw [hF.out, h1, h2]; simp)
          go_enter Try.func47, Try.ntmps47
          go_wp2_with fail
          refine (iFind _ _ _ _ l _ _ rfl (els_up H1.out (Ext.alloc_ _ _)) (by omega)).mono ?_
          rintro e w1 ⟨rfl, hb1⟩
          rw [hq'.out]
          obtain ⟨hc1, hf1⟩ := bcell (hb1)
          have hz1 : w.heap.size < w1.heap.size := Ext.lt_alloc hb1
          obtain ⟨b, off, rfl, hb, hc⟩ := (els_up (els_up H1.out (Ext.alloc_ _ _)) hb1).at_ (List.ne_nil_of_length_pos (by omega))
          obtain ⟨k0, k1, k2, k3⟩ := els_seen hc i hi
          clear hc
          go_wp2_with fail
          go_quiet (fail)
          go_wp2_with fail
          go_ret
          exact ⟨(by rw [hF2.out]; first | done | rfl), Ext.drewN_ (Ext.trans (Ext.alloc_ _ _) hb1) _⟩
        · have hF2 := Lib.hid (show dupB l fm sq fr true ca = false by rw [hF.out, h1]; simp [h2])
          have h2b : (l[i].fr == fr) = false := by simpa using h2
          go_enter Try.func47, Try.ntmps47
          go_wp2_with fail
          refine (iFind _ _ _ _ l _ _ rfl (els_up H1.out (Ext.alloc_ _ _)) (by omega)).mono ?_
          rintro e w1 ⟨rfl, hb1⟩
          rw [hq'.out]
          obtain ⟨hc1, hf1⟩ := bcell (hb1)
          have hz1 : w.heap.size < w1.heap.size := Ext.lt_alloc hb1
          obtain ⟨b, off, rfl, hb, hc⟩ := (els_up (els_up H1.out (Ext.alloc_ _ _)) hb1).at_ (List.ne_nil_of_length_pos (by omega))
          obtain ⟨k0, k1, k2, k3⟩ := els_seen hc i hi
          clear hc
          go_wp2_with fail
          go_quiet (fail)
          go_wp2_with fail
          go_ret
          exact ⟨(by rw [hF2.out]; first | done | rfl), Ext.drewN_ (Ext.trans (Ext.alloc_ _ _) hb1) _⟩
      · have hF2 := Lib.hid (show dupB l fm sq fr true ca = false by rw [hF.out]; simp [h1])
        have h1b : (l[i].sq == sq) = false := by simpa using h1
        go_enter Try.func47, Try.ntmps47
        go_wp2_with fail
        refine (iFind _ _ _ _ l _ _ rfl (els_up H1.out (Ext.alloc_ _ _)) (by omega)).mono ?_
        rintro e w1 ⟨rfl, hb1⟩
        rw [hq'.out]
        obtain ⟨hc1, hf1⟩ := bcell (hb1)
        have hz1 : w.heap.size < w1.heap.size := Ext.lt_alloc hb1
        obtain ⟨b, off, rfl, hb, hc⟩ := (els_up (els_up H1.out (Ext.alloc_ _ _)) hb1).at_ (List.ne_nil_of_length_pos (by omega))
        obtain ⟨k0, k1, k2, k3⟩ := els_seen hc i hi
        clear hc
        go_wp2_with fail
        go_quiet (fail)
        go_wp2_with fail
        go_ret
        exact ⟨(by rw [hF2.out]; first | done | rfl), Ext.drewN_ (Ext.trans (Ext.alloc_ _ _) hb1) _⟩
/-- A value that reads as a frame. -/
def SP.mac (kd fm to sq fr : Int) (mo re : Bool) (du : Int) (n : Nat) (l : List Int) : SP :=
  { p := fun v w => ∃ A c, v = .agg #[.int .i64 kd, .int .i64 fm, .int .i64 to, .int .i64 sq, .int .i64 fr, .bool mo, .bool re, .int .i64 du, .slice A n c] ∧ RB w A c l
    st := fun v w w' hE ⟨A, c, h1, h2⟩ => ⟨A, c, h1, h2.ext hE⟩ }
end Go.Proofs.Ytkmklafjcjkpdaa
