/- Draws of lists of remembered frames. -/
import Derived.Test.YtkmklafjcjkpdaaRemA
import Derived.Test.YtkmklafjcjkpdaaFrA
namespace Go.Proofs.Ytkmklafjcjkpdaa
open Go.RowKit
set_option linter.unusedVariables false
set_option linter.unusedSimpArgs false
/-- The bounds of remembered frames: what is drawn on with them. -/
def SB (l : List Seen) : Prop := ∀ s ∈ l, FI s.sq
theorem SB.rem {l : List Seen} {fm sq fr ca : Int} (h : SB l) (hs : FI sq) : SB (remS l fm sq fr ca) := by
  intro s hm
  unfold remS at hm
  split at hm
  · rcases List.mem_append.1 hm with h1 | h1
    · exact h s h1
    · simp at h1
      subst h1
      exact hs
  · rcases List.mem_or_eq_of_mem_set hm with h1 | h1
    · exact h s h1
    · subst h1
      exact hs
theorem own_els {w : World} {B : Nat} {T : TypeId} {v : Value} {l : List Seen} (h : w.ownsRow B T 4 v l.length (rowS l)) : ∃ A c, v = .slice A l.length c ∧ (A = none → c = 0) ∧ l.length ≤ c ∧ Els w A 4 (kE kSeen) l := by
  obtain ⟨A, c, h1, h2, h3, h4, h5⟩ := (AppR.seen h).own
  exact ⟨A, c, h1, h5, h2, h4.els⟩
theorem rowS_append (l m : List Seen) : rowS (l ++ m) = rowS l ++ rowS m := by simp [rowS, rowOf]
theorem rowS_app (l : List Seen) (a b c d : Int) : rowS (l ++ [⟨a, b, c, d⟩]) = rowS l ++ [.int .i64 a, .int .i64 b, .int .i64 c, .int .i64 d] := by
  rw [rowS_append, rowS_cons]
  simp [rowS, rowOf]
set_option maxHeartbeats 4000000 in
theorem sSeenL (w : World) (b : Nat) (hC : Cur w b) :
    Calls Try.prog 146 #[.pointer (some ⟨b, 0, none⟩)] w fun e w' => ∃ (v : Value) (l : List Seen), e = .returned v ∧ l.length ≤ 100 ∧ SB l ∧ w'.ownsRow w.heap.size 131 4 v l.length (rowS l) ∧ Drawn w w' b := by
  have hlt := hC.lt
  have hO := World.ownsRow_lit (size := 4) (e := 131) (base := w.heap.size) w #[] 0 (Nat.le_refl _) (by unfold maxLen; omega) (by simp)
  have hO0 := Lib.hid hO
  have D0 := Lib.hid (Drawn.of_ext hC (Ext.alloc_ w (.cells #[] 131)))
  clear hO hC
  go_enter Try.func146, Try.ntmps146
  go_wp2_with fail
  refine (sBelow _ _ _ D0.out.2 (by decide)).mono ?_
  rintro e w1 ⟨it, rfl, hit, hD⟩
  have O1 := Lib.hid (own_chg hO0.out hD.1 (fun y hy hS => by omega))
  have D1 := Lib.hid (D0.out.trans hD)
  clear hD hO0 D0
  go_wp2_with fail
  go_loopw [3, 4] (fun v i wr => ∃ (iv : Int) (l : List Seen), i = .int .i64 iv ∧ (0 ≤ iv ∧ (l.length : Int) + iv ≤ 6) ∧ Hid (SB l) ∧ Hid (wr.ownsRow w.heap.size 131 4 v l.length (rowS l)) ∧ Hid (Drawn w wr b)) (fun _ i _ => (intOf i).toNat)
  case atStart => exact ⟨it, [], rfl, ⟨by omega, by simp; omega⟩, Lib.hid (fun s hs => by simp at hs), Lib.hid (by simpa [rowS, rowOf] using O1.out), D1⟩
  case round =>
    clear O1 D1 hit
    obtain ⟨iv, l, rfl, ⟨hi0, hi6⟩, hS, hO, hD⟩ := hrel
    by_cases h0 : 0 < iv
    · have hwr : IntKind.i64.wrap (iv - 1) = iv - 1 := IntWalk.i64_in _ (by omega)
      obtain ⟨A0, c0, rfl, hA0, hc0, hE0⟩ := own_els hO.out
      have HE0 := Lib.hid hE0
      have HA0 := Lib.hid hA0
      clear hE0 hA0
      go_wp2_with fail
      refine (sFrame _ _ hD.out.2).mono ?_
      rintro e w5 ⟨kd, fm, ta, sq, fr, mo, re, du, g, A, c, bl, rfl, hF, hbb, hbl, hN, hD5⟩
      have HF := Lib.hid hF
      have O5 := Lib.hid (own_chg hO.out hD5.1 (fun y hy hS => by omega))
      have D5 := Lib.hid (hD.out.trans hD5)
      clear hF hbb hbl hN hD5
      go_wp2_with fail
      refine (sBelow _ _ _ D5.out.2 (by decide)).mono ?_
      rintro e w6 ⟨ca, rfl, hca, hD6⟩
      have O6 := Lib.hid (own_chg O5.out hD6.1 (fun y hy hS => by omega))
      have D6 := Lib.hid (D5.out.trans hD6)
      clear hD6 O5 D5 hO hD HE0
      obtain ⟨A1, c1, hv1, -, -, hE1⟩ := own_els O6.out
      injection hv1 with q1 q2 q3
      subst q1 q3
      go_wp2_with fail
      refine (sRemA _ _ _ _ _ _ _ _ _ _ _ _ _ _ _ ca l rfl hE1 HA0.out (by omega)).mono ?_
      rintro e w7 ⟨v7, rfl, h7, hO7⟩
      have hsz := D6.out.1.size
      have O7 := Lib.hid (own_base hO7 (B' := w.heap.size) hsz)
      have D7 := Lib.hid (D6.out.ext h7)
      have S7 := Lib.hid (SB.rem (fm := fm) (fr := fr) (ca := ca) hS.out HF.out.2.2.2.1)
      have hl7 := remS_len l fm sq fr ca
      clear hE1 HA0 h7 hO7 O6 D6
      go_wp2_with fail
      go_roundw
      case rel => exact ⟨iv - 1, _, rfl, ⟨by omega, by omega⟩, S7, O7, D7⟩
      case measure => simp [intOf]; omega
    · go_wp2_with fail
      refine (sBelow _ _ _ hD.out.2 (by decide)).mono ?_
      rintro e w5 ⟨k, rfl, hk, hD5⟩
      have O5 := Lib.hid (own_chg hO.out hD5.1 (fun y hy hS => by omega))
      have D5 := Lib.hid (hD.out.trans hD5)
      clear hD5 hO hD
      by_cases k0 : k = 0
      · subst k0
        have hL1 := Lib.hid (cel_lit w5 3 #[.int .i64 (-1), .int .i64 16])
        have hlen : (l.length : Int) ≤ 6 := by omega
        go_wp2_with fail
        refine (sOneOf _ _ _ _ _ [-1, 16] (D5.out.2.ext (Ext.alloc_ _ _)) rfl (by simp) hL1.out (fun b' o' h => by injection h with h; injection h with h; have := D5.out.2.lt; omega)).mono ?_
        rintro e w6 ⟨z1, rfl, hz1, hD6⟩
        have D6 := Lib.hid (D5.out.trans (Drawn.trans (Drawn.of_ext D5.out.2 (Ext.alloc_ w5 _)) hD6))
        have O6 := Lib.hid (own_chg (Ext.own (Ext.alloc_ w5 _) O5.out) hD6.1 (fun y hy hS => by omega))
        have hL2 := Lib.hid (cel_lit w6 3 #[.int .i64 0, .int .i64 4096])
        clear hz1 hD6 hL1 O5 D5
        go_wp2_with fail
        refine (sOneOf _ _ _ _ _ [0, 4096] (D6.out.2.ext (Ext.alloc_ _ _)) rfl (by simp) hL2.out (fun b' o' h => by injection h with h; injection h with h; have := D6.out.2.lt; omega)).mono ?_
        rintro e w7 ⟨z2, rfl, hz2, hD7⟩
        have D7 := Lib.hid (D6.out.trans (Drawn.trans (Drawn.of_ext D6.out.2 (Ext.alloc_ w6 _)) hD7))
        have O7 := Lib.hid (own_chg (Ext.own (Ext.alloc_ w6 _) O6.out) hD7.1 (fun y hy hS => by omega))
        have hFz : FI z2 := by unfold FI; simp at hz2; omega
        clear hz2 hD7 hL2 O6 D6
        have e8 := Ext.alloc_ w7 (.cells #[.int .i64 z1, .int .i64 0, .int .i64 z2, .int .i64 0] 131)
        have D8 := Lib.hid (D7.out.ext e8)
        have O8 := Lib.hid (Ext.own e8 O7.out)
        have hL := Lib.hid (cel_lit w7 131 #[.int .i64 z1, .int .i64 0, .int .i64 z2, .int .i64 0])
        have hsz : w.heap.size ≤ w7.heap.size := D7.out.1.size
        have hone := Lib.hid (seen_one ⟨z1, 0, z2, 0⟩)
        clear e8 O7 D7
        go_wp2_with (at_builtin; refine wpApp (.tmp 22) (.tmp 30) elSeen rfl rfl w.heap.size _ _ _ rfl O8.out _ _ _ _ rfl hL.out (by simp) (fun h => by simp at h) hone.out (by unfold maxLen; omega) (by omega) (by simp <;> omega) ?_)
        intro v1 w9 hO1 hg1 _
        have D9 := Lib.hid (Drawn.grown D8.out hg1 O8.out (Nat.le_refl _) hlt)
        have O9 := Lib.hid hO1
        clear hO1 hg1 O8 D8 hL hone
        go_wp2_with fail
        go_ret
        refine ⟨_, l ++ [⟨z1, 0, z2, 0⟩], rfl, by simp; omega, ?_, ?_, D9.out⟩
        · intro s hs
          rcases List.mem_append.1 hs with h | h
          · exact hS.out s h
          · simp at h
            subst h
            exact hFz
        · have h := O9.out
          rw [List.length_append, rowS_app]
          exact h
      by_cases k1 : k = 1
      · subst k1
        have hlen : (l.length : Int) ≤ 6 := by omega
        obtain ⟨A0, c0, hv, hA0, hc0, hE0⟩ := own_els O5.out
        have HV := Lib.hid hv
        have hsz : w.heap.size ≤ w5.heap.size := D5.out.1.size
        have e6 := Ext.alloc_ w5 (.cells #[] 131)
        have hOw := Lib.hid (World.ownsRow_lit (size := 4) (e := 131) (base := w5.heap.size) w5 #[] 0 (Nat.le_refl _) (by unfold maxLen; omega) (by simp))
        have hC1 := Lib.hid ((els_cel hE0).ext e6)
        have hone := Lib.hid (rowS_one l)
        have hln := Lib.hid (rowS_len l)
        have HA0 := Lib.hid hA0
        subst hv
        clear hE0 hA0 HV e6
        go_wp2_with (at_builtin; refine wpApp (.tmp 35) (.tmp 36) elSeen rfl rfl w5.heap.size _ _ _ rfl hOw.out _ _ _ _ rfl hC1.out (by simpa using hln.out) HA0.out hone.out (by unfold maxLen; omega) (by omega) (by simp <;> omega) ?_)
        intro v2 w7 hO2 hg2 _
        have H7 := Lib.hid (ext_grown (w0 := w5) (Ext.alloc_ _ _) hg2 hOw.out (Nat.le_refl _))
        have D7 := Lib.hid (D5.out.ext H7.out)
        have O7 := Lib.hid (Ext.own H7.out O5.out)
        obtain ⟨A2, c2, rfl, hA2, hc2, hE2⟩ := own_els (l := l) (by simpa using hO2)
        have hC2 := Lib.hid (els_cel hE2)
        have HA2 := Lib.hid hA2
        have hsz7 : w.heap.size ≤ w7.heap.size := D7.out.1.size
        clear hO2 hg2 hE2 hA2 hC1 hOw H7 O5 D5
        refine wpApp (.tmp 34) (.tmp 37) elSeen rfl rfl w.heap.size _ _ _ rfl O7.out _ _ _ _ rfl hC2.out (by simpa using hln.out) HA2.out hone.out (by unfold maxLen; omega) (by omega) (by first | omega | (simp <;> omega)) ?_
        intro v1 w9 hO1 hg1 _
        have D9 := Lib.hid (Drawn.grown D7.out hg1 O7.out (Nat.le_refl _) hlt)
        have O9 := Lib.hid hO1
        clear hO1 hg1 O7 D7
        go_wp2_with fail
        go_ret
        refine ⟨_, l ++ l, rfl, by simp; omega, ?_, ?_, D9.out⟩
        · intro s hs
          rcases List.mem_append.1 hs with h | h
          · exact hS.out s h
          · exact hS.out s h
        · have h := O9.out
          rw [List.length_append, rowS_append]
          exact h
      go_wp2_with fail
      go_ret
      exact ⟨_, l, rfl, by omega, hS.out, O5.out, D5.out⟩
end Go.Proofs.Ytkmklafjcjkpdaa
