/- Contracts: valid frames, hearing a frame, who may transmit. -/
import Derived.Test.YtkmklafjcjkpdaaFrA
import Derived.Test.YtkmklafjcjkpdaaG3
import Derived.Test.YtkmklafjcjkpdaaG6
import Derived.Test.YtkmklafjcjkpdaaG10
import Derived.Deep.DeepCutAuto
namespace Go.Proofs.Ytkmklafjcjkpdaa
open Go.RowKit
set_option linter.unusedVariables false
set_option linter.unusedSimpArgs false
/-- the receiver is possible; the frame is valid -/
def rcvB (kd fm ta : Int) : Bool := (inB ta 0 15 && ta != fm) || (ta == 63 && (kd == 1 || kd == 5 || kd == 6))
def lenB (kd : Int) (n : Nat) : Bool := if empB kd then ((n : Int) == 0) else decide ((n : Int) ≤ 100)
def frB (kd fm ta sq fr du : Int) (n : Nat) : Bool := inB kd 1 7 && inB fm 0 15 && rcvB kd fm ta && inB sq 0 4095 && inB fr 0 15 && inB du 0 1000 && lenB kd n
theorem iRcv (kd fm ta sq fr : Int) (mo re : Bool) (du : Int) (A : Option Addr) (n c : Nat) (w : World) : Calls Try.prog 151 #[.agg #[.int .i64 kd, .int .i64 fm, .int .i64 ta, .int .i64 sq, .int .i64 fr, .bool mo, .bool re, .int .i64 du, .slice A n c]] w fun e w' => e = .returned (.bool (rcvB kd fm ta)) ∧ Below w.heap.size w w' := by
  by_cases h63 : ta = 63
  · subst h63
    by_cases h1 : kd = 1
    · subst h1
      go_enter Try.func151, Try.ntmps151
      go_wp2_with (go_at_call 116; refine (iStation _ _).mono ?_; rintro e w' ⟨rfl, rfl⟩)
      go_ret
      exact ⟨by simp [rcvB, inB], by repeat (first | (with_reducible exact Below.refl _ _) | (with_reducible assumption) | (with_reducible refine Below.alloc ?_ (by simp <;> omega) _) | (with_reducible refine Below.setCell ?_ (by simp <;> omega) _) | (with_reducible refine Below.drew ?_))⟩
    by_cases h5 : kd = 5
    · subst h5
      go_enter Try.func151, Try.ntmps151
      go_wp2_with (go_at_call 116; refine (iStation _ _).mono ?_; rintro e w' ⟨rfl, rfl⟩)
      go_ret
      exact ⟨by simp [rcvB, inB], by repeat (first | (with_reducible exact Below.refl _ _) | (with_reducible assumption) | (with_reducible refine Below.alloc ?_ (by simp <;> omega) _) | (with_reducible refine Below.setCell ?_ (by simp <;> omega) _) | (with_reducible refine Below.drew ?_))⟩
    go_enter Try.func151, Try.ntmps151
    go_wp2_with (go_at_call 116; refine (iStation _ _).mono ?_; rintro e w' ⟨rfl, rfl⟩)
    go_ret
    exact ⟨by simp [rcvB, inB, h1, h5], by repeat (first | (with_reducible exact Below.refl _ _) | (with_reducible assumption) | (with_reducible refine Below.alloc ?_ (by simp <;> omega) _) | (with_reducible refine Below.setCell ?_ (by simp <;> omega) _) | (with_reducible refine Below.drew ?_))⟩
  · by_cases h1 : inB ta 0 15 = true
    · go_enter Try.func151, Try.ntmps151
      go_wp2_with (go_at_call 116; refine (iStation _ _).mono ?_; rintro e w' ⟨rfl, rfl⟩)
      go_ret
      exact ⟨by simp [rcvB, h1, h63], by repeat (first | (with_reducible exact Below.refl _ _) | (with_reducible assumption) | (with_reducible refine Below.alloc ?_ (by simp <;> omega) _) | (with_reducible refine Below.setCell ?_ (by simp <;> omega) _) | (with_reducible refine Below.drew ?_))⟩
    · have h1' : inB ta 0 15 = false := by simpa using h1
      go_enter Try.func151, Try.ntmps151
      go_wp2_with (go_at_call 116; refine (iStation _ _).mono ?_; rintro e w' ⟨rfl, rfl⟩)
      go_ret
      exact ⟨by simp [rcvB, h1', h63], by repeat (first | (with_reducible exact Below.refl _ _) | (with_reducible assumption) | (with_reducible refine Below.alloc ?_ (by simp <;> omega) _) | (with_reducible refine Below.setCell ?_ (by simp <;> omega) _) | (with_reducible refine Below.drew ?_))⟩
theorem iMay (u o b s n : Int) (w : World) : Calls Try.prog 63 #[.agg #[.int .i64 u, .int .i64 o, .int .i64 b], .int .i64 s, .int .i64 n] w fun e w' => e = .returned (.bool (!decide (n < u) || o == s)) ∧ Below w.heap.size w w' := by
  obtain ⟨D, hD⟩ : ∃ D, decide (n < u) = D := ⟨_, rfl⟩
  rw [hD]
  have HD := Lib.hid hD
  clear hD
  cases D with
  | true =>
    go_enter Try.func63, Try.ntmps63
    go_wp2_with fail
    refine (resvI _ _ _ _ _).mono ?_
    rintro e w1 ⟨rfl, hb1⟩
    rw [HD.out]
    obtain ⟨hc1, hf1⟩ := bcell (hb1)
    have hb0 : Below w.heap.size w w1 := Ext.trans (Ext.alloc_ _ _) hb1
    clear hb1
    go_wp2_with fail
    go_ret
    exact ⟨by simp, hb0⟩
  | false =>
    go_enter Try.func63, Try.ntmps63
    go_wp2_with fail
    refine (resvI _ _ _ _ _).mono ?_
    rintro e w1 ⟨rfl, hb1⟩
    rw [HD.out]
    obtain ⟨hc1, hf1⟩ := bcell (hb1)
    have hb0 : Below w.heap.size w w1 := Ext.trans (Ext.alloc_ _ _) hb1
    clear hb1
    go_wp2_with fail
    go_ret
    exact ⟨by simp, hb0⟩
theorem iGr (r : Int) (h : 1 < r ∧ r ≤ 1000000) (w : World) : Calls Try.prog 70 #[.int .i64 r] w fun e w' => e = .returned (.int .i64 (r - 1)) ∧ w = w' := by
  have h1 : ¬ r ≤ 1 := by omega
  have h2 : IntKind.i64.wrap (r - 1) = r - 1 := IntWalk.i64_in _ (by omega)
  go_enter Try.func70, Try.ntmps70
  go_wp2_with fail
  go_ret
  exact ⟨rfl, rfl⟩
set_option maxHeartbeats 1000000 in
theorem iFrOk (kd fm ta sq fr : Int) (mo re : Bool) (du : Int) (A : Option Addr) (n c : Nat) (w : World) : Calls Try.prog 127 #[.agg #[.int .i64 kd, .int .i64 fm, .int .i64 ta, .int .i64 sq, .int .i64 fr, .bool mo, .bool re, .int .i64 du, .slice A n c]] w fun e w' => e = .returned (.bool (frB kd fm ta sq fr du n)) ∧ Below w.heap.size w w' := by
  cases h1 : inB kd 1 7 with
  | false =>
    go_enter Try.func127, Try.ntmps127
    go_wp2_with (first | (go_at_call 94; refine (iIn _ _ _ _).mono ?_; rintro e w' ⟨rfl, rfl⟩) | (go_at_call 116; refine (iStation _ _).mono ?_; rintro e w' ⟨rfl, rfl⟩))
    go_ret
    exact ⟨by simp [frB, h1], by repeat (first | (with_reducible exact Below.refl _ _) | (with_reducible assumption) | (with_reducible refine Below.alloc ?_ (by simp <;> omega) _) | (with_reducible refine Below.setCell ?_ (by simp <;> omega) _) | (with_reducible refine Below.drew ?_))⟩
  | true =>
  cases h2 : inB fm 0 15 with
  | false =>
    go_enter Try.func127, Try.ntmps127
    go_wp2_with (first | (go_at_call 94; refine (iIn _ _ _ _).mono ?_; rintro e w' ⟨rfl, rfl⟩) | (go_at_call 116; refine (iStation _ _).mono ?_; rintro e w' ⟨rfl, rfl⟩))
    go_ret
    exact ⟨by simp [frB, h2], by repeat (first | (with_reducible exact Below.refl _ _) | (with_reducible assumption) | (with_reducible refine Below.alloc ?_ (by simp <;> omega) _) | (with_reducible refine Below.setCell ?_ (by simp <;> omega) _) | (with_reducible refine Below.drew ?_))⟩
  | true =>
  cases h3 : rcvB kd fm ta with
  | false =>
    go_enter Try.func127, Try.ntmps127
    go_wp2_with (first | (go_at_call 94; refine (iIn _ _ _ _).mono ?_; rintro e w' ⟨rfl, rfl⟩) | (go_at_call 116; refine (iStation _ _).mono ?_; rintro e w' ⟨rfl, rfl⟩))
    refine (iRcv _ _ _ _ _ _ _ _ _ _ _ _).mono ?_
    rintro e w1 ⟨rfl, hb1⟩
    rw [h3]
    have hb0 : Below w.heap.size w w1 := Ext.trans (Ext.alloc_ _ _) hb1
    go_wp2_with (first | (go_at_call 94; refine (iIn _ _ _ _).mono ?_; rintro e w' ⟨rfl, rfl⟩) | (go_at_call 116; refine (iStation _ _).mono ?_; rintro e w' ⟨rfl, rfl⟩))
    go_ret
    exact ⟨by simp [frB, h3], hb0⟩
  | true =>
  cases h4 : inB sq 0 4095 with
  | false =>
    go_enter Try.func127, Try.ntmps127
    go_wp2_with (first | (go_at_call 94; refine (iIn _ _ _ _).mono ?_; rintro e w' ⟨rfl, rfl⟩) | (go_at_call 116; refine (iStation _ _).mono ?_; rintro e w' ⟨rfl, rfl⟩))
    refine (iRcv _ _ _ _ _ _ _ _ _ _ _ _).mono ?_
    rintro e w1 ⟨rfl, hb1⟩
    rw [h3]
    obtain ⟨hc1, hf1⟩ := bcell (hb1)
    have hb0 : Below w.heap.size w w1 := Ext.trans (Ext.alloc_ _ _) hb1
    clear hb1
    go_wp2_with (first | (go_at_call 94; refine (iIn _ _ _ _).mono ?_; rintro e w' ⟨rfl, rfl⟩) | (go_at_call 116; refine (iStation _ _).mono ?_; rintro e w' ⟨rfl, rfl⟩))
    go_ret
    exact ⟨by simp [frB, h4], hb0⟩
  | true =>
  cases h5 : inB fr 0 15 with
  | false =>
    go_enter Try.func127, Try.ntmps127
    go_wp2_with (first | (go_at_call 94; refine (iIn _ _ _ _).mono ?_; rintro e w' ⟨rfl, rfl⟩) | (go_at_call 116; refine (iStation _ _).mono ?_; rintro e w' ⟨rfl, rfl⟩))
    refine (iRcv _ _ _ _ _ _ _ _ _ _ _ _).mono ?_
    rintro e w1 ⟨rfl, hb1⟩
    rw [h3]
    obtain ⟨hc1, hf1⟩ := bcell (hb1)
    have hb0 : Below w.heap.size w w1 := Ext.trans (Ext.alloc_ _ _) hb1
    clear hb1
    go_wp2_with (first | (go_at_call 94; refine (iIn _ _ _ _).mono ?_; rintro e w' ⟨rfl, rfl⟩) | (go_at_call 116; refine (iStation _ _).mono ?_; rintro e w' ⟨rfl, rfl⟩))
    go_ret
    exact ⟨by simp [frB, h5], hb0⟩
  | true =>
  cases h6 : inB du 0 1000 with
  | false =>
    go_enter Try.func127, Try.ntmps127
    go_wp2_with (first | (go_at_call 94; refine (iIn _ _ _ _).mono ?_; rintro e w' ⟨rfl, rfl⟩) | (go_at_call 116; refine (iStation _ _).mono ?_; rintro e w' ⟨rfl, rfl⟩))
    refine (iRcv _ _ _ _ _ _ _ _ _ _ _ _).mono ?_
    rintro e w1 ⟨rfl, hb1⟩
    rw [h3]
    obtain ⟨hc1, hf1⟩ := bcell (hb1)
    have hb0 : Below w.heap.size w w1 := Ext.trans (Ext.alloc_ _ _) hb1
    clear hb1
    go_wp2_with (first | (go_at_call 94; refine (iIn _ _ _ _).mono ?_; rintro e w' ⟨rfl, rfl⟩) | (go_at_call 116; refine (iStation _ _).mono ?_; rintro e w' ⟨rfl, rfl⟩))
    go_ret
    exact ⟨by simp [frB, h6], hb0⟩
  | true =>
  have hF := Lib.hid (show frB kd fm ta sq fr du n = lenB kd n by simp [frB, h1, h2, h3, h4, h5, h6])
  go_enter Try.func127, Try.ntmps127
  go_wp2_with (first | (go_at_call 94; refine (iIn _ _ _ _).mono ?_; rintro e w' ⟨rfl, rfl⟩) | (go_at_call 116; refine (iStation _ _).mono ?_; rintro e w' ⟨rfl, rfl⟩))
  refine (iRcv _ _ _ _ _ _ _ _ _ _ _ _).mono ?_
  rintro e w1 ⟨rfl, hb1⟩
  rw [h3]
  obtain ⟨hc1, hf1⟩ := bcell (hb1)
  have hb0 : Below w.heap.size w w1 := Ext.trans (Ext.alloc_ _ _) hb1
  clear hb1
  rcases (show kd = 2 ∨ kd = 3 ∨ kd = 4 ∨ kd = 7 ∨ (kd ≠ 2 ∧ kd ≠ 3 ∧ kd ≠ 4 ∧ kd ≠ 7) by omega) with rfl | rfl | rfl | rfl | ⟨k2, k3, k4, k7⟩
  · go_wp2_with (first | (go_at_call 94; refine (iIn _ _ _ _).mono ?_; rintro e w' ⟨rfl, rfl⟩) | (go_at_call 116; refine (iStation _ _).mono ?_; rintro e w' ⟨rfl, rfl⟩))
    go_ret
    exact ⟨by rw [hF.out]; simp [lenB, empB], hb0⟩
  · go_wp2_with (first | (go_at_call 94; refine (iIn _ _ _ _).mono ?_; rintro e w' ⟨rfl, rfl⟩) | (go_at_call 116; refine (iStation _ _).mono ?_; rintro e w' ⟨rfl, rfl⟩))
    go_ret
    exact ⟨by rw [hF.out]; simp [lenB, empB], hb0⟩
  · go_wp2_with (first | (go_at_call 94; refine (iIn _ _ _ _).mono ?_; rintro e w' ⟨rfl, rfl⟩) | (go_at_call 116; refine (iStation _ _).mono ?_; rintro e w' ⟨rfl, rfl⟩))
    go_ret
    exact ⟨by rw [hF.out]; simp [lenB, empB], hb0⟩
  · go_wp2_with (first | (go_at_call 94; refine (iIn _ _ _ _).mono ?_; rintro e w' ⟨rfl, rfl⟩) | (go_at_call 116; refine (iStation _ _).mono ?_; rintro e w' ⟨rfl, rfl⟩))
    go_ret
    exact ⟨by rw [hF.out]; simp [lenB, empB], hb0⟩
  · go_wp2_with (first | (go_at_call 94; refine (iIn _ _ _ _).mono ?_; rintro e w' ⟨rfl, rfl⟩) | (go_at_call 116; refine (iStation _ _).mono ?_; rintro e w' ⟨rfl, rfl⟩))
    go_ret
    exact ⟨by rw [hF.out]; simp [lenB, empB, k2, k3, k4, k7], hb0⟩
def holdV (kd fm ta : Int) : Int := if kd = 4 then ta else fm
def hrB (u o b s kd fm ta sq fr du : Int) (n : Nat) (nw : Int) : Bool := frB kd fm ta sq fr du n && resB u o b && inB nw 0 999999998999 && !(ta == s) && decide (u < nw + 1 + du)
theorem frB_du {kd fm ta sq fr du : Int} {n : Nat} (h : frB kd fm ta sq fr du n = true) : (0 ≤ du ∧ du ≤ 1000) ∧ (0 ≤ fm ∧ fm ≤ 15) ∧ rcvB kd fm ta = true := by
  simp only [frB, Bool.and_eq_true] at h
  exact ⟨inB_true h.1.2, inB_true h.1.1.1.1.1.2, h.1.1.1.1.2⟩
set_option maxHeartbeats 2000000 in
theorem iHear (u o b s : Int) (kd fm ta sq fr : Int) (mo re : Bool) (du : Int) (A : Option Addr) (n c : Nat) (nw : Int) (w : World) (hd : Bool) (hh : hrB u o b s kd fm ta sq fr du n nw = hd) :
    Calls Try.prog 61 #[.agg #[.int .i64 u, .int .i64 o, .int .i64 b], .int .i64 s, .agg #[.int .i64 kd, .int .i64 fm, .int .i64 ta, .int .i64 sq, .int .i64 fr, .bool mo, .bool re, .int .i64 du, .slice A n c], .int .i64 nw] w fun e w' => e = .returned (.agg #[.int .i64 (sel hd (nw + 1 + du) u), .int .i64 (sel hd (holdV kd fm ta) o), .int .i64 (sel hd fm b)]) ∧ Below w.heap.size w w' := by
  cases h1 : frB kd fm ta sq fr du n with
  | false =>
    have hk : hd = false := by rw [← hh]; simp [hrB, h1]
    clear hh
    go_enter Try.func61, Try.ntmps61
    go_wp2_with (first | (go_at_call 94; refine (iIn _ _ _ _).mono ?_; rintro e w' ⟨rfl, rfl⟩) | (go_at_call 116; refine (iStation _ _).mono ?_; rintro e w' ⟨rfl, rfl⟩))
    refine (iFrOk _ _ _ _ _ _ _ _ _ _ _ _).mono ?_
    rintro e w1 ⟨rfl, hb1⟩
    rw [h1]
    obtain ⟨hc1, hf1⟩ := bcell (hb1)
    have hz1 : w.heap.size + 2 < w1.heap.size := by have := hb1.size; simp at this; omega
    have hz1a : w.heap.size + 1 < w1.heap.size := by omega
    have hz1b : w.heap.size < w1.heap.size := by omega
    have hb0 : Below w.heap.size w w1 := Ext.trans (Ext.trans (Ext.trans (Ext.alloc_ _ _) (Ext.alloc_ _ _)) (Ext.alloc_ _ _)) hb1
    clear hb1
    go_wp2_with (first | (go_at_call 94; refine (iIn _ _ _ _).mono ?_; rintro e w' ⟨rfl, rfl⟩) | (go_at_call 116; refine (iStation _ _).mono ?_; rintro e w' ⟨rfl, rfl⟩))
    refine bodyPost_ret (v := .agg #[.int .i64 u, .int .i64 o, .int .i64 b]) (by simp [results, Try.results61, go_sem, *]) rfl ⟨by rw [hk]; rfl, by repeat (first | (with_reducible exact Below.refl _ _) | (with_reducible assumption) | (with_reducible refine Below.alloc ?_ (by simp <;> omega) _) | (with_reducible refine Below.setCell ?_ (by simp <;> omega) _) | (with_reducible refine Below.drew ?_))⟩
  | true =>
  obtain ⟨⟨d1, d2⟩, f1, f2⟩ := frB_du h1
  cases h2 : resB u o b with
  | false =>
    have hk : hd = false := by rw [← hh]; simp [hrB, h2]
    clear hh
    go_enter Try.func61, Try.ntmps61
    go_wp2_with (first | (go_at_call 94; refine (iIn _ _ _ _).mono ?_; rintro e w' ⟨rfl, rfl⟩) | (go_at_call 116; refine (iStation _ _).mono ?_; rintro e w' ⟨rfl, rfl⟩))
    refine (iFrOk _ _ _ _ _ _ _ _ _ _ _ _).mono ?_
    rintro e w1 ⟨rfl, hb1⟩
    rw [h1]
    obtain ⟨hc1, hf1⟩ := bcell (hb1)
    have hz1 : w.heap.size + 2 < w1.heap.size := by have := hb1.size; simp at this; omega
    have hz1a : w.heap.size + 1 < w1.heap.size := by omega
    have hz1b : w.heap.size < w1.heap.size := by omega
    have hb0 : Below w.heap.size w w1 := Ext.trans (Ext.trans (Ext.trans (Ext.alloc_ _ _) (Ext.alloc_ _ _)) (Ext.alloc_ _ _)) hb1
    clear hb1
    go_wp2_with (first | (go_at_call 94; refine (iIn _ _ _ _).mono ?_; rintro e w' ⟨rfl, rfl⟩) | (go_at_call 116; refine (iStation _ _).mono ?_; rintro e w' ⟨rfl, rfl⟩))
    refine (iResOk _ _ _ _).mono ?_
    rintro e w2 ⟨rfl, hb2⟩
    rw [h2]
    obtain ⟨hc2, hf2⟩ := bcell hb2
    have hz2 : w.heap.size + 2 < w2.heap.size := by have := hb2.size; omega
    have hb3 : Below w.heap.size w w2 := Ext.trans hb0 hb2
    clear hb2 hb0
    go_wp2_with (first | (go_at_call 94; refine (iIn _ _ _ _).mono ?_; rintro e w' ⟨rfl, rfl⟩) | (go_at_call 116; refine (iStation _ _).mono ?_; rintro e w' ⟨rfl, rfl⟩))
    refine bodyPost_ret (v := .agg #[.int .i64 u, .int .i64 o, .int .i64 b]) (by simp [results, Try.results61, go_sem, *]) rfl ⟨by rw [hk]; rfl, by repeat (first | (with_reducible exact Below.refl _ _) | (with_reducible assumption) | (with_reducible refine Below.alloc ?_ (by simp <;> omega) _) | (with_reducible refine Below.setCell ?_ (by simp <;> omega) _) | (with_reducible refine Below.drew ?_))⟩
  | true =>
  cases h3 : inB nw 0 999999998999 with
  | false =>
    have hk : hd = false := by rw [← hh]; simp [hrB, h3]
    clear hh
    go_enter Try.func61, Try.ntmps61
    go_wp2_with (first | (go_at_call 94; refine (iIn _ _ _ _).mono ?_; rintro e w' ⟨rfl, rfl⟩) | (go_at_call 116; refine (iStation _ _).mono ?_; rintro e w' ⟨rfl, rfl⟩))
    refine (iFrOk _ _ _ _ _ _ _ _ _ _ _ _).mono ?_
    rintro e w1 ⟨rfl, hb1⟩
    rw [h1]
    obtain ⟨hc1, hf1⟩ := bcell (hb1)
    have hz1 : w.heap.size + 2 < w1.heap.size := by have := hb1.size; simp at this; omega
    have hz1a : w.heap.size + 1 < w1.heap.size := by omega
    have hz1b : w.heap.size < w1.heap.size := by omega
    have hb0 : Below w.heap.size w w1 := Ext.trans (Ext.trans (Ext.trans (Ext.alloc_ _ _) (Ext.alloc_ _ _)) (Ext.alloc_ _ _)) hb1
    clear hb1
    go_wp2_with (first | (go_at_call 94; refine (iIn _ _ _ _).mono ?_; rintro e w' ⟨rfl, rfl⟩) | (go_at_call 116; refine (iStation _ _).mono ?_; rintro e w' ⟨rfl, rfl⟩))
    refine (iResOk _ _ _ _).mono ?_
    rintro e w2 ⟨rfl, hb2⟩
    rw [h2]
    obtain ⟨hc2, hf2⟩ := bcell hb2
    have hz2 : w.heap.size + 2 < w2.heap.size := by have := hb2.size; omega
    have hb3 : Below w.heap.size w w2 := Ext.trans hb0 hb2
    clear hb2 hb0
    go_wp2_with (first | (go_at_call 94; refine (iIn _ _ _ _).mono ?_; rintro e w' ⟨rfl, rfl⟩) | (go_at_call 116; refine (iStation _ _).mono ?_; rintro e w' ⟨rfl, rfl⟩))
    refine bodyPost_ret (v := .agg #[.int .i64 u, .int .i64 o, .int .i64 b]) (by simp [results, Try.results61, go_sem, *]) rfl ⟨by rw [hk]; rfl, by repeat (first | (with_reducible exact Below.refl _ _) | (with_reducible assumption) | (with_reducible refine Below.alloc ?_ (by simp <;> omega) _) | (with_reducible refine Below.setCell ?_ (by simp <;> omega) _) | (with_reducible refine Below.drew ?_))⟩
  | true =>
  obtain ⟨n1, n2⟩ := inB_true h3
  have hw1 : IntKind.i64.wrap (nw + 1) = nw + 1 := IntWalk.i64_in _ (by omega)
  have hw2 : IntKind.i64.wrap (nw + 1 + du) = nw + 1 + du := IntWalk.i64_in _ (by omega)
  by_cases h4 : ta = s
  · subst h4
    have hk : hd = false := by rw [← hh]; simp [hrB]
    clear hh
    go_enter Try.func61, Try.ntmps61
    go_wp2_with (first | (go_at_call 94; refine (iIn _ _ _ _).mono ?_; rintro e w' ⟨rfl, rfl⟩) | (go_at_call 116; refine (iStation _ _).mono ?_; rintro e w' ⟨rfl, rfl⟩))
    refine (iFrOk _ _ _ _ _ _ _ _ _ _ _ _).mono ?_
    rintro e w1 ⟨rfl, hb1⟩
    rw [h1]
    obtain ⟨hc1, hf1⟩ := bcell (hb1)
    have hz1 : w.heap.size + 2 < w1.heap.size := by have := hb1.size; simp at this; omega
    have hz1a : w.heap.size + 1 < w1.heap.size := by omega
    have hz1b : w.heap.size < w1.heap.size := by omega
    have hb0 : Below w.heap.size w w1 := Ext.trans (Ext.trans (Ext.trans (Ext.alloc_ _ _) (Ext.alloc_ _ _)) (Ext.alloc_ _ _)) hb1
    clear hb1
    go_wp2_with (first | (go_at_call 94; refine (iIn _ _ _ _).mono ?_; rintro e w' ⟨rfl, rfl⟩) | (go_at_call 116; refine (iStation _ _).mono ?_; rintro e w' ⟨rfl, rfl⟩))
    refine (iResOk _ _ _ _).mono ?_
    rintro e w2 ⟨rfl, hb2⟩
    rw [h2]
    obtain ⟨hc2, hf2⟩ := bcell hb2
    have hz2 : w.heap.size + 2 < w2.heap.size := by have := hb2.size; omega
    have hb3 : Below w.heap.size w w2 := Ext.trans hb0 hb2
    clear hb2 hb0
    go_wp2_with (first | (go_at_call 94; refine (iIn _ _ _ _).mono ?_; rintro e w' ⟨rfl, rfl⟩) | (go_at_call 116; refine (iStation _ _).mono ?_; rintro e w' ⟨rfl, rfl⟩))
    refine bodyPost_ret (v := .agg #[.int .i64 u, .int .i64 o, .int .i64 b]) (by simp [results, Try.results61, go_sem, *]) rfl ⟨by rw [hk]; rfl, by repeat (first | (with_reducible exact Below.refl _ _) | (with_reducible assumption) | (with_reducible refine Below.alloc ?_ (by simp <;> omega) _) | (with_reducible refine Below.setCell ?_ (by simp <;> omega) _) | (with_reducible refine Below.drew ?_))⟩
  by_cases h5 : nw + 1 + du ≤ u
  · have hk : hd = false := by rw [← hh]; simp [hrB]; omega
    clear hh
    go_enter Try.func61, Try.ntmps61
    go_wp2_with (first | (go_at_call 94; refine (iIn _ _ _ _).mono ?_; rintro e w' ⟨rfl, rfl⟩) | (go_at_call 116; refine (iStation _ _).mono ?_; rintro e w' ⟨rfl, rfl⟩))
    refine (iFrOk _ _ _ _ _ _ _ _ _ _ _ _).mono ?_
    rintro e w1 ⟨rfl, hb1⟩
    rw [h1]
    obtain ⟨hc1, hf1⟩ := bcell (hb1)
    have hz1 : w.heap.size + 2 < w1.heap.size := by have := hb1.size; simp at this; omega
    have hz1a : w.heap.size + 1 < w1.heap.size := by omega
    have hz1b : w.heap.size < w1.heap.size := by omega
    have hb0 : Below w.heap.size w w1 := Ext.trans (Ext.trans (Ext.trans (Ext.alloc_ _ _) (Ext.alloc_ _ _)) (Ext.alloc_ _ _)) hb1
    clear hb1
    go_wp2_with (first | (go_at_call 94; refine (iIn _ _ _ _).mono ?_; rintro e w' ⟨rfl, rfl⟩) | (go_at_call 116; refine (iStation _ _).mono ?_; rintro e w' ⟨rfl, rfl⟩))
    refine (iResOk _ _ _ _).mono ?_
    rintro e w2 ⟨rfl, hb2⟩
    rw [h2]
    obtain ⟨hc2, hf2⟩ := bcell hb2
    have hz2 : w.heap.size + 2 < w2.heap.size := by have := hb2.size; omega
    have hb3 : Below w.heap.size w w2 := Ext.trans hb0 hb2
    clear hb2 hb0
    go_wp2_with (first | (go_at_call 94; refine (iIn _ _ _ _).mono ?_; rintro e w' ⟨rfl, rfl⟩) | (go_at_call 116; refine (iStation _ _).mono ?_; rintro e w' ⟨rfl, rfl⟩))
    refine bodyPost_ret (v := .agg #[.int .i64 u, .int .i64 o, .int .i64 b]) (by simp [results, Try.results61, go_sem, *]) rfl ⟨by rw [hk]; rfl, by repeat (first | (with_reducible exact Below.refl _ _) | (with_reducible assumption) | (with_reducible refine Below.alloc ?_ (by simp <;> omega) _) | (with_reducible refine Below.setCell ?_ (by simp <;> omega) _) | (with_reducible refine Below.drew ?_))⟩
  have hk : hd = true := by
    rw [← hh]
    simp [hrB, h1, h2, h3, h4]
    omega
  clear hh
  by_cases h6 : kd = 4
  · subst h6
    go_enter Try.func61, Try.ntmps61
    go_wp2_with (first | (go_at_call 94; refine (iIn _ _ _ _).mono ?_; rintro e w' ⟨rfl, rfl⟩) | (go_at_call 116; refine (iStation _ _).mono ?_; rintro e w' ⟨rfl, rfl⟩))
    refine (iFrOk _ _ _ _ _ _ _ _ _ _ _ _).mono ?_
    rintro e w1 ⟨rfl, hb1⟩
    rw [h1]
    obtain ⟨hc1, hf1⟩ := bcell (hb1)
    have hz1 : w.heap.size + 2 < w1.heap.size := by have := hb1.size; simp at this; omega
    have hz1a : w.heap.size + 1 < w1.heap.size := by omega
    have hz1b : w.heap.size < w1.heap.size := by omega
    have hb0 : Below w.heap.size w w1 := Ext.trans (Ext.trans (Ext.trans (Ext.alloc_ _ _) (Ext.alloc_ _ _)) (Ext.alloc_ _ _)) hb1
    clear hb1
    go_wp2_with (first | (go_at_call 94; refine (iIn _ _ _ _).mono ?_; rintro e w' ⟨rfl, rfl⟩) | (go_at_call 116; refine (iStation _ _).mono ?_; rintro e w' ⟨rfl, rfl⟩))
    refine (iResOk _ _ _ _).mono ?_
    rintro e w2 ⟨rfl, hb2⟩
    rw [h2]
    obtain ⟨hc2, hf2⟩ := bcell hb2
    have hz2 : w.heap.size + 2 < w2.heap.size := by have := hb2.size; omega
    have hb3 : Below w.heap.size w w2 := Ext.trans hb0 hb2
    clear hb2 hb0
    go_wp2_with (first | (go_at_call 94; refine (iIn _ _ _ _).mono ?_; rintro e w' ⟨rfl, rfl⟩) | (go_at_call 116; refine (iStation _ _).mono ?_; rintro e w' ⟨rfl, rfl⟩))
    refine bodyPost_ret (v := .agg #[.int .i64 (nw + 1 + du), .int .i64 ta, .int .i64 fm]) (by simp [results, Try.results61, go_sem, *]) rfl ⟨by rw [hk]; rfl, by repeat (first | (with_reducible exact Below.refl _ _) | (with_reducible assumption) | (with_reducible refine Below.alloc ?_ (by simp <;> omega) _) | (with_reducible refine Below.setCell ?_ (by simp <;> omega) _) | (with_reducible refine Below.drew ?_))⟩
  · skip
    go_enter Try.func61, Try.ntmps61
    go_wp2_with (first | (go_at_call 94; refine (iIn _ _ _ _).mono ?_; rintro e w' ⟨rfl, rfl⟩) | (go_at_call 116; refine (iStation _ _).mono ?_; rintro e w' ⟨rfl, rfl⟩))
    refine (iFrOk _ _ _ _ _ _ _ _ _ _ _ _).mono ?_
    rintro e w1 ⟨rfl, hb1⟩
    rw [h1]
    obtain ⟨hc1, hf1⟩ := bcell (hb1)
    have hz1 : w.heap.size + 2 < w1.heap.size := by have := hb1.size; simp at this; omega
    have hz1a : w.heap.size + 1 < w1.heap.size := by omega
    have hz1b : w.heap.size < w1.heap.size := by omega
    have hb0 : Below w.heap.size w w1 := Ext.trans (Ext.trans (Ext.trans (Ext.alloc_ _ _) (Ext.alloc_ _ _)) (Ext.alloc_ _ _)) hb1
    clear hb1
    go_wp2_with (first | (go_at_call 94; refine (iIn _ _ _ _).mono ?_; rintro e w' ⟨rfl, rfl⟩) | (go_at_call 116; refine (iStation _ _).mono ?_; rintro e w' ⟨rfl, rfl⟩))
    refine (iResOk _ _ _ _).mono ?_
    rintro e w2 ⟨rfl, hb2⟩
    rw [h2]
    obtain ⟨hc2, hf2⟩ := bcell hb2
    have hz2 : w.heap.size + 2 < w2.heap.size := by have := hb2.size; omega
    have hb3 : Below w.heap.size w w2 := Ext.trans hb0 hb2
    clear hb2 hb0
    go_wp2_with (first | (go_at_call 94; refine (iIn _ _ _ _).mono ?_; rintro e w' ⟨rfl, rfl⟩) | (go_at_call 116; refine (iStation _ _).mono ?_; rintro e w' ⟨rfl, rfl⟩))
    refine bodyPost_ret (v := .agg #[.int .i64 (nw + 1 + du), .int .i64 fm, .int .i64 fm]) (by simp [results, Try.results61, go_sem, *]) rfl ⟨by rw [hk]; simp [sel_t, holdV, h6], by repeat (first | (with_reducible exact Below.refl _ _) | (with_reducible assumption) | (with_reducible refine Below.alloc ?_ (by simp <;> omega) _) | (with_reducible refine Below.setCell ?_ (by simp <;> omega) _) | (with_reducible refine Below.drew ?_))⟩
theorem rcv_spec (kd fm ta : Int) (h : inB kd 1 7 = true) : rcvB kd fm ta = ((inB ta 0 15 && ta != fm) || (ta == 63 && !empB kd)) := by
  have hb := inB_true h
  unfold rcvB empB
  have hk : kd = 1 ∨ kd = 2 ∨ kd = 3 ∨ kd = 4 ∨ kd = 5 ∨ kd = 6 ∨ kd = 7 := by omega
  rcases hk with rfl | rfl | rfl | rfl | rfl | rfl | rfl <;> simp
def sRcv (kd fm ta : Int) : Bool := (inB ta 0 15 && ta != fm) || (ta == 63 && !empB kd)
theorem fr_spec (kd fm ta sq fr du : Int) (n : Nat) : frB kd fm ta sq fr du n = (inB kd 1 7 && inB fm 0 15 && sRcv kd fm ta && (inB sq 0 4095 && inB fr 0 15 && inB du 0 1000 && decide ((n : Int) ≤ 100) && ((n : Int) == 0 || !empB kd))) := by
  unfold frB
  cases h : inB kd 1 7 with
  | false => simp
  | true =>
    rw [rcv_spec kd fm ta h]
    unfold lenB sRcv
    cases empB kd with
    | false => simp [Bool.and_assoc]
    | true =>
      have : (decide ((n : Int) ≤ 100) && ((n : Int) == 0)) = ((n : Int) == 0) := by
        cases h0 : ((n : Int) == 0) with
        | false => simp
        | true =>
          have : n = 0 := by simpa using h0
          subst this
          rfl
      simp [Bool.and_assoc, this]
set_option maxHeartbeats 2000000 in
theorem sFrOk (kd fm ta sq fr : Int) (mo re : Bool) (du : Int) (A : Option Addr) (n c : Nat) (w : World) : Calls Try.prog 65 #[.agg #[.int .i64 kd, .int .i64 fm, .int .i64 ta, .int .i64 sq, .int .i64 fr, .bool mo, .bool re, .int .i64 du, .slice A n c]] w fun e w' => e = .returned (.bool (frB kd fm ta sq fr du n)) ∧ Below w.heap.size w w' := by
  rw [fr_spec]
  have hE := Lib.hid (Ext.alloc_ w (.cells #[.int .i64 kd, .int .i64 fm, .int .i64 ta, .int .i64 sq, .int .i64 fr, .bool mo, .bool re, .int .i64 du, .slice A n c] 66))
  go_enter Try.func65, Try.ntmps65
  go_upto_region 1 with fail
  go_cut [3] from 4 (fun v wx => v = .bool (sRcv kd fm ta) ∧ wx = w.alloc (.cells #[.int .i64 kd, .int .i64 fm, .int .i64 ta, .int .i64 sq, .int .i64 fr, .bool mo, .bool re, .int .i64 du, .slice A n c] 66))
  case first =>
    cases q1 : inB ta 0 15 with
    | true =>
      by_cases q2 : ta = fm
      · subst q2
        have q3 : ¬ ta = 63 := by have := inB_true q1; omega
        go_wp2_with (first | (go_at_call 92; refine (sIn _ _ _ _).mono ?_; rintro e w' ⟨rfl, rfl⟩) | (go_at_call 128; refine (sEmpt _ _).mono ?_; rintro e w' ⟨rfl, rfl⟩))
        go_meet
        exact ⟨by simp [sRcv, q1, q3], rfl⟩
      · go_wp2_with (first | (go_at_call 92; refine (sIn _ _ _ _).mono ?_; rintro e w' ⟨rfl, rfl⟩) | (go_at_call 128; refine (sEmpt _ _).mono ?_; rintro e w' ⟨rfl, rfl⟩))
        go_meet
        exact ⟨by simp [sRcv, q1, q2], rfl⟩
    | false =>
      by_cases q3 : ta = 63
      · subst q3
        cases q4 : empB kd with
        | true =>
          go_wp2_with (first | (go_at_call 92; refine (sIn _ _ _ _).mono ?_; rintro e w' ⟨rfl, rfl⟩) | (go_at_call 128; refine (sEmpt _ _).mono ?_; rintro e w' ⟨rfl, rfl⟩))
          go_meet
          exact ⟨by simp [sRcv, q1, q4], rfl⟩
        | false =>
          go_wp2_with (first | (go_at_call 92; refine (sIn _ _ _ _).mono ?_; rintro e w' ⟨rfl, rfl⟩) | (go_at_call 128; refine (sEmpt _ _).mono ?_; rintro e w' ⟨rfl, rfl⟩))
          go_meet
          exact ⟨by simp [sRcv, q1, q4], rfl⟩
      · go_wp2_with (first | (go_at_call 92; refine (sIn _ _ _ _).mono ?_; rintro e w' ⟨rfl, rfl⟩) | (go_at_call 128; refine (sEmpt _ _).mono ?_; rintro e w' ⟨rfl, rfl⟩))
        go_meet
        exact ⟨by simp [sRcv, q1, q3], rfl⟩
  case rest =>
    obtain ⟨rfl, rfl⟩ := hcut
    cases h1 : inB kd 1 7 with
    | false =>
      go_wp2_with (first | (go_at_call 92; refine (sIn _ _ _ _).mono ?_; rintro e w' ⟨rfl, rfl⟩) | (go_at_call 128; refine (sEmpt _ _).mono ?_; rintro e w' ⟨rfl, rfl⟩))
      go_ret
      exact ⟨by simp [h1], hE.out⟩
    | true =>
    cases h2 : inB fm 0 15 with
    | false =>
      go_wp2_with (first | (go_at_call 92; refine (sIn _ _ _ _).mono ?_; rintro e w' ⟨rfl, rfl⟩) | (go_at_call 128; refine (sEmpt _ _).mono ?_; rintro e w' ⟨rfl, rfl⟩))
      go_ret
      exact ⟨by simp [h1, h2], hE.out⟩
    | true =>
    cases h3 : sRcv kd fm ta with
    | false =>
      go_wp2_with (first | (go_at_call 92; refine (sIn _ _ _ _).mono ?_; rintro e w' ⟨rfl, rfl⟩) | (go_at_call 128; refine (sEmpt _ _).mono ?_; rintro e w' ⟨rfl, rfl⟩))
      go_ret
      exact ⟨by simp [h1, h2, h3], hE.out⟩
    | true =>
    cases h4 : inB sq 0 4095 with
    | false =>
      go_wp2_with (first | (go_at_call 92; refine (sIn _ _ _ _).mono ?_; rintro e w' ⟨rfl, rfl⟩) | (go_at_call 128; refine (sEmpt _ _).mono ?_; rintro e w' ⟨rfl, rfl⟩))
      go_ret
      exact ⟨by simp [h1, h2, h3, h4], hE.out⟩
    | true =>
    cases h5 : inB fr 0 15 with
    | false =>
      go_wp2_with (first | (go_at_call 92; refine (sIn _ _ _ _).mono ?_; rintro e w' ⟨rfl, rfl⟩) | (go_at_call 128; refine (sEmpt _ _).mono ?_; rintro e w' ⟨rfl, rfl⟩))
      go_ret
      exact ⟨by simp [h1, h2, h3, h4, h5], hE.out⟩
    | true =>
    cases h6 : inB du 0 1000 with
    | false =>
      go_wp2_with (first | (go_at_call 92; refine (sIn _ _ _ _).mono ?_; rintro e w' ⟨rfl, rfl⟩) | (go_at_call 128; refine (sEmpt _ _).mono ?_; rintro e w' ⟨rfl, rfl⟩))
      go_ret
      exact ⟨by simp [h1, h2, h3, h4, h5, h6], hE.out⟩
    | true =>
    by_cases h7 : (n : Int) ≤ 100
    · by_cases h8 : (n : Int) = 0
      · go_wp2_with (first | (go_at_call 92; refine (sIn _ _ _ _).mono ?_; rintro e w' ⟨rfl, rfl⟩) | (go_at_call 128; refine (sEmpt _ _).mono ?_; rintro e w' ⟨rfl, rfl⟩))
        go_ret
        exact ⟨by simp [h1, h2, h3, h4, h5, h6, h8], hE.out⟩
      · cases h9 : empB kd with
        | false =>
          go_wp2_with (first | (go_at_call 92; refine (sIn _ _ _ _).mono ?_; rintro e w' ⟨rfl, rfl⟩) | (go_at_call 128; refine (sEmpt _ _).mono ?_; rintro e w' ⟨rfl, rfl⟩))
          go_ret
          exact ⟨by simp [h1, h2, h3, h4, h5, h6, h9] <;> omega, hE.out⟩
        | true =>
          go_wp2_with (first | (go_at_call 92; refine (sIn _ _ _ _).mono ?_; rintro e w' ⟨rfl, rfl⟩) | (go_at_call 128; refine (sEmpt _ _).mono ?_; rintro e w' ⟨rfl, rfl⟩))
          go_ret
          exact ⟨by simp [h1, h2, h3, h4, h5, h6, h9] <;> omega, hE.out⟩
    · go_wp2_with (first | (go_at_call 92; refine (sIn _ _ _ _).mono ?_; rintro e w' ⟨rfl, rfl⟩) | (go_at_call 128; refine (sEmpt _ _).mono ?_; rintro e w' ⟨rfl, rfl⟩))
      go_ret
      exact ⟨by simp [h1, h2, h3, h4, h5, h6] <;> omega, hE.out⟩
end Go.Proofs.Ytkmklafjcjkpdaa
