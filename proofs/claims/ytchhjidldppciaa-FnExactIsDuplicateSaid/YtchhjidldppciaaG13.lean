/- The laws on seen frames. -/
import Derived.Test.YtchhjidldppciaaSeen
namespace Go.Proofs.Ytchhjidldppciaa
open Go.RowKit
set_option linter.unusedVariables false
set_option linter.unusedSimpArgs false

def okSeenAt (l : List Seen) (i : Nat) : Bool := match l[i]? with
  | none => true
  | some s => inB s.frm 0 15 && inB s.cat 0 3 && inB s.sq 0 4095 && inB s.fr 0 15 && (fnd l s.frm s.cat == (i : Int))
def okSeen (l : List Seen) : Bool := (List.range l.length).all (okSeenAt l)
theorem okSeenAt_eq {l : List Seen} {k : Nat} (hk : k < l.length) : okSeenAt l k = (inB l[k].frm 0 15 && inB l[k].cat 0 3 && inB l[k].sq 0 4095 && inB l[k].fr 0 15 && (fnd l l[k].frm l[k].cat == (k : Int))) := by
  simp [okSeenAt, hk]
theorem okSeen_not {l : List Seen} {k : Nat} (hk : k < l.length) (h : okSeenAt l k = false) : okSeen l = false := by
  unfold okSeen
  rw [List.all_eq_false]
  exact ⟨k, by simp [hk], by simp [h]⟩
theorem okSeen_all {l : List Seen} (h : ∀ i, i < l.length → okSeenAt l i = true) : okSeen l = true := by
  unfold okSeen
  rw [List.all_eq_true]
  intro x hx
  exact h x (by simpa using hx)
theorem okSeen_next {l : List Seen} {k : Nat} (h : ∀ i, i < k → okSeenAt l i = true) (h1 : okSeenAt l k = true) : ∀ i, i < k + 1 → okSeenAt l i = true := by
  intro i hi
  by_cases h2 : i = k
  · subst h2; exact h1
  · exact h i (by omega)
set_option maxHeartbeats 1600000 in
theorem sSeenOk (w : World) (A : Option Addr) (n c : Nat) (l : List Seen) (hn : l.length = n) (hM : Els w A 4 (kE kSeen) l) (hl : n ≤ 1048576) :
    Calls Try.prog 24 #[.slice A n c] w fun e w' => e = .returned (.bool (okSeen l)) ∧ Below w.heap.size w w' := by
  subst hn
  have H1 := Lib.hid hM
  go_enter Try.func24, Try.ntmps24
  go_wp2
  go_loopw [3] (fun i wr => ∃ k : Nat, k ≤ l.length ∧ i = .int .i64 k ∧ Ext w wr ∧ Hid (∀ i, i < k → okSeenAt l i = true)) (fun i _ => l.length - (intOf i).toNat)
  case atStart => exact ⟨0, Nat.zero_le _, rfl, Ext.refl _, Lib.hid (fun i h => absurd h (by omega))⟩
  case round =>
    obtain ⟨k, hk, rfl, hE, hI⟩ := hrel
    by_cases hlt : k < l.length
    · obtain ⟨b, off, hA, hb, hc⟩ := (hM.ext hE (fun x cs h => kE.ext hE x cs h)).at_ (List.ne_nil_of_length_pos (by omega))
      have H2 := Lib.hid ((H1.out.ext hE (fun x cs h => kE.ext hE x cs h)).ext (Ext.alloc_ wr (.cells #[.int .i64 l[k].frm, .int .i64 l[k].cat, .int .i64 l[k].sq, .int .i64 l[k].fr] 86)) (fun x cs h => kE.ext (Ext.alloc_ _ _) x cs h))
      subst hA
      obtain ⟨k0, k1, k2, k3⟩ := els_seen hc k hlt
      have hat := Lib.hid (okSeenAt_eq hlt)
      clear hc
      by_cases h1 : inB l[k].frm 0 15 = true
      · by_cases h2 : inB l[k].cat 0 3 = true
        · by_cases h3 : inB l[k].sq 0 4095 = true
          · by_cases h4 : inB l[k].fr 0 15 = true
            · by_cases h5 : fnd l l[k].frm l[k].cat = (k : Int)
              · have hF := Lib.hid (okSeen_next hI.out (by rw [hat.out, h1, h2, h3, h4]; simp [h5]))
                clear hM H1
                go_wp2_with (first | (first | (go_at_call 59; refine (sIn _ _ _ _).mono ?_; rintro e w' ⟨rfl, rfl⟩) ) | (go_at_call 66; refine (sFind _ _ _ _ l _ _ rfl H2.out (by omega)).mono ?_; rintro e w' ⟨rfl, hb1⟩; rw [h5]))
                go_roundw
                case rel => exact ⟨k + 1, by omega, by go_num, Ext.trans (Ext.trans hE (Ext.alloc_ _ _)) hb1, hF⟩
                case measure => simp [intOf]; omega
              · have hF := Lib.hid (okSeen_not hlt (by rw [hat.out]; simp [h5]))
                clear hM H1
                have h6 := fnd_range l l[k].frm l[k].cat
                generalize hq : fnd l l[k].frm l[k].cat = q at *
                have hq' := Lib.hid hq
                clear hq h6
                go_wp2_with (first | (first | (go_at_call 59; refine (sIn _ _ _ _).mono ?_; rintro e w' ⟨rfl, rfl⟩) ) | (go_at_call 66; refine (sFind _ _ _ _ l _ _ rfl H2.out (by omega)).mono ?_; rintro e w' ⟨rfl, hb1⟩; rw [hq'.out]))
                go_ret
                exact ⟨(by rw [hF.out]; first | done | rfl), Ext.trans (Ext.trans hE (Ext.alloc_ _ _)) hb1⟩
            · have h4' : inB l[k].fr 0 15 = false := by simpa using h4
              have hF := Lib.hid (okSeen_not hlt (by rw [hat.out, h4']; simp))
              clear hM H1
              go_wp2_with (first | (go_at_call 59; refine (sIn _ _ _ _).mono ?_; rintro e w' ⟨rfl, rfl⟩) )
              go_ret
              exact ⟨(by rw [hF.out]; first | done | rfl), Ext.trans hE (Ext.alloc_ _ _)⟩
          · have h3' : inB l[k].sq 0 4095 = false := by simpa using h3
            have hF := Lib.hid (okSeen_not hlt (by rw [hat.out, h3']; simp))
            clear hM H1
            go_wp2_with (first | (go_at_call 59; refine (sIn _ _ _ _).mono ?_; rintro e w' ⟨rfl, rfl⟩) )
            go_ret
            exact ⟨(by rw [hF.out]; first | done | rfl), Ext.trans hE (Ext.alloc_ _ _)⟩
        · have h2' : inB l[k].cat 0 3 = false := by simpa using h2
          have hF := Lib.hid (okSeen_not hlt (by rw [hat.out, h2']; simp))
          clear hM H1
          go_wp2_with (first | (go_at_call 59; refine (sIn _ _ _ _).mono ?_; rintro e w' ⟨rfl, rfl⟩) )
          go_ret
          exact ⟨(by rw [hF.out]; first | done | rfl), Ext.trans hE (Ext.alloc_ _ _)⟩
      · have h1' : inB l[k].frm 0 15 = false := by simpa using h1
        have hF := Lib.hid (okSeen_not hlt (by rw [hat.out, h1']; simp))
        clear hM H1
        go_wp2_with (first | (go_at_call 59; refine (sIn _ _ _ _).mono ?_; rintro e w' ⟨rfl, rfl⟩) )
        go_ret
        exact ⟨(by rw [hF.out]; first | done | rfl), Ext.trans hE (Ext.alloc_ _ _)⟩
    · obtain rfl : k = l.length := by omega
      have hF := Lib.hid (okSeen_all hI.out)
      clear hM
      go_wp2
      go_ret
      exact ⟨(by rw [hF.out]; first | done | rfl), hE⟩
set_option maxHeartbeats 1600000 in
theorem iSeenOk (w : World) (A : Option Addr) (n c : Nat) (l : List Seen) (hn : l.length = n) (hM : Els w A 4 (kE kSeen) l) (hl : n ≤ 1048576) :
    Calls Try.prog 26 #[.slice A n c] w fun e w' => e = .returned (.bool (okSeen l)) ∧ Below w.heap.size w w' := by
  subst hn
  have H1 := Lib.hid hM
  go_enter Try.func26, Try.ntmps26
  go_wp2
  go_loopw [7] (fun i wr => ∃ k : Nat, k ≤ l.length ∧ i = .int .i64 k ∧ Ext w wr ∧ Hid (∀ i, i < k → okSeenAt l i = true)) (fun i _ => l.length - (intOf i).toNat)
  case atStart => exact ⟨0, Nat.zero_le _, rfl, Ext.refl _, Lib.hid (fun i h => absurd h (by omega))⟩
  case round =>
    obtain ⟨k, hk, rfl, hE, hI⟩ := hrel
    by_cases hlt : k < l.length
    · obtain ⟨b, off, hA, hb, hc⟩ := (hM.ext hE (fun x cs h => kE.ext hE x cs h)).at_ (List.ne_nil_of_length_pos (by omega))
      have H2 := Lib.hid ((H1.out.ext hE (fun x cs h => kE.ext hE x cs h)).ext (Ext.alloc_ wr (.cells #[.int .i64 l[k].frm, .int .i64 l[k].cat, .int .i64 l[k].sq, .int .i64 l[k].fr] 86)) (fun x cs h => kE.ext (Ext.alloc_ _ _) x cs h))
      subst hA
      obtain ⟨k0, k1, k2, k3⟩ := els_seen hc k hlt
      have hat := Lib.hid (okSeenAt_eq hlt)
      clear hc
      by_cases h1 : inB l[k].frm 0 15 = true
      · by_cases h2 : inB l[k].cat 0 3 = true
        · by_cases h3 : inB l[k].sq 0 4095 = true
          · by_cases h4 : inB l[k].fr 0 15 = true
            · by_cases h5 : fnd l l[k].frm l[k].cat = (k : Int)
              · have hF := Lib.hid (okSeen_next hI.out (by rw [hat.out, h1, h2, h3, h4]; simp [h5]))
                clear hM H1
                go_wp2_with (first | (first | (go_at_call 65; refine (iIn _ _ _ _).mono ?_; rintro e w' ⟨rfl, rfl⟩)  | (go_at_call 68; refine (iStation _ _).mono ?_; rintro e w' ⟨rfl, rfl⟩) | (go_at_call 61; refine (iCat _ _).mono ?_; rintro e w' ⟨rfl, rfl⟩)) | (go_at_call 69; refine (iFind _ _ _ _ l _ _ rfl H2.out (by omega)).mono ?_; rintro e w' ⟨rfl, hb1⟩; rw [h5]))
                go_roundw
                case rel => exact ⟨k + 1, by omega, by go_num, Ext.trans (Ext.trans hE (Ext.alloc_ _ _)) hb1, hF⟩
                case measure => simp [intOf]; omega
              · have hF := Lib.hid (okSeen_not hlt (by rw [hat.out]; simp [h5]))
                clear hM H1
                have h6 := fnd_range l l[k].frm l[k].cat
                generalize hq : fnd l l[k].frm l[k].cat = q at *
                have hq' := Lib.hid hq
                clear hq h6
                go_wp2_with (first | (first | (go_at_call 65; refine (iIn _ _ _ _).mono ?_; rintro e w' ⟨rfl, rfl⟩)  | (go_at_call 68; refine (iStation _ _).mono ?_; rintro e w' ⟨rfl, rfl⟩) | (go_at_call 61; refine (iCat _ _).mono ?_; rintro e w' ⟨rfl, rfl⟩)) | (go_at_call 69; refine (iFind _ _ _ _ l _ _ rfl H2.out (by omega)).mono ?_; rintro e w' ⟨rfl, hb1⟩; rw [hq'.out]))
                go_ret
                exact ⟨(by rw [hF.out]; first | done | rfl), Ext.trans (Ext.trans hE (Ext.alloc_ _ _)) hb1⟩
            · have h4' : inB l[k].fr 0 15 = false := by simpa using h4
              have hF := Lib.hid (okSeen_not hlt (by rw [hat.out, h4']; simp))
              clear hM H1
              go_wp2_with (first | (go_at_call 65; refine (iIn _ _ _ _).mono ?_; rintro e w' ⟨rfl, rfl⟩)  | (go_at_call 68; refine (iStation _ _).mono ?_; rintro e w' ⟨rfl, rfl⟩) | (go_at_call 61; refine (iCat _ _).mono ?_; rintro e w' ⟨rfl, rfl⟩))
              go_ret
              exact ⟨(by rw [hF.out]; first | done | rfl), Ext.trans hE (Ext.alloc_ _ _)⟩
          · have h3' : inB l[k].sq 0 4095 = false := by simpa using h3
            have hF := Lib.hid (okSeen_not hlt (by rw [hat.out, h3']; simp))
            clear hM H1
            go_wp2_with (first | (go_at_call 65; refine (iIn _ _ _ _).mono ?_; rintro e w' ⟨rfl, rfl⟩)  | (go_at_call 68; refine (iStation _ _).mono ?_; rintro e w' ⟨rfl, rfl⟩) | (go_at_call 61; refine (iCat _ _).mono ?_; rintro e w' ⟨rfl, rfl⟩))
            go_ret
            exact ⟨(by rw [hF.out]; first | done | rfl), Ext.trans hE (Ext.alloc_ _ _)⟩
        · have h2' : inB l[k].cat 0 3 = false := by simpa using h2
          have hF := Lib.hid (okSeen_not hlt (by rw [hat.out, h2']; simp))
          clear hM H1
          go_wp2_with (first | (go_at_call 65; refine (iIn _ _ _ _).mono ?_; rintro e w' ⟨rfl, rfl⟩)  | (go_at_call 68; refine (iStation _ _).mono ?_; rintro e w' ⟨rfl, rfl⟩) | (go_at_call 61; refine (iCat _ _).mono ?_; rintro e w' ⟨rfl, rfl⟩))
          go_ret
          exact ⟨(by rw [hF.out]; first | done | rfl), Ext.trans hE (Ext.alloc_ _ _)⟩
      · have h1' : inB l[k].frm 0 15 = false := by simpa using h1
        have hF := Lib.hid (okSeen_not hlt (by rw [hat.out, h1']; simp))
        clear hM H1
        go_wp2_with (first | (go_at_call 65; refine (iIn _ _ _ _).mono ?_; rintro e w' ⟨rfl, rfl⟩)  | (go_at_call 68; refine (iStation _ _).mono ?_; rintro e w' ⟨rfl, rfl⟩) | (go_at_call 61; refine (iCat _ _).mono ?_; rintro e w' ⟨rfl, rfl⟩))
        go_ret
        exact ⟨(by rw [hF.out]; first | done | rfl), Ext.trans hE (Ext.alloc_ _ _)⟩
    · obtain rfl : k = l.length := by omega
      have hF := Lib.hid (okSeen_all hI.out)
      clear hM
      go_wp2
      go_ret
      exact ⟨(by rw [hF.out]; first | done | rfl), hE⟩
theorem cells_seen : Try.prog.cellsOf 89 = 4 := by kernel_rfl
theorem seen_rd {w : World} {cs : List Value} (h : Rd Try.prog w 89 cs) : ∃ s : Seen, kE kSeen w s cs := by
  have hl := (Rd.struct Try.underlying89 h).1
  rw [cells_seen] at hl
  obtain ⟨a, h1⟩ := int_f Try.underlying89 h 0 _ rfl Try.underlying3 cells_int1
  obtain ⟨b, h2⟩ := int_f Try.underlying89 h 1 _ rfl Try.underlying3 cells_int1
  obtain ⟨d, h3⟩ := int_f Try.underlying89 h 2 _ rfl Try.underlying3 cells_int1
  obtain ⟨f, h4⟩ := int_f Try.underlying89 h 3 _ rfl Try.underlying3 cells_int1
  match cs, hl with
  | [c0, c1, c2, c3], _ =>
    simp at h1 h2 h3 h4
    subst h1 h2 h3 h4
    exact ⟨⟨a, b, d, f⟩, none, 0, rfl, .inl rfl, fun _ => rfl, Nat.le_refl _⟩
theorem view_seen {w : World} {A : Option Addr} {n c : Nat} (h : Rd Try.prog w 28 [.slice A n c]) : ∃ l : List Seen, l.length = n ∧ Els w A 4 (kE kSeen) l ∧ n ≤ maxLen := by
  obtain ⟨l, h1, h2, h3, h4, h5⟩ := view_els Try.underlying28 (by rw [cells_seen]; decide) (fun es h => seen_rd h) h
  rw [cells_seen] at h2
  exact ⟨l, h1, h2, by omega⟩
/-- A slice that reads as seen frames. -/
def SP.seen (n : Nat) (l : List Seen) : SP :=
  { p := fun v w => ∃ A c, v = .slice A n c ∧ Els w A 4 (kE kSeen) l
    st := fun v w w' hE ⟨A, c, h1, h2⟩ => ⟨A, c, h1, h2.ext hE (fun x cs h => kE.ext hE x cs h)⟩ }
theorem els_up {α : Type} {K : Kind α} {w w' : World} {A : Option Addr} {s : Nat} {l : List α} (h : Els w A s (kE K) l) (hE : Ext w w') : Els w' A s (kE K) l := h.ext hE (fun x cs h => kE.ext hE x cs h)
theorem walk_FnExactAreValidSeen (a0 : Option Addr) (n0 c0 : Nat) (w : World) (r0 : Rd Try.prog w 28 [.slice a0 n0 c0]) :
    Calls Try.prog 6 #[.slice a0 n0 c0] w fun e w' => e = .returned (.bool true) ∧ Below w.heap.size w w' := by
  obtain ⟨l, hn, hM, hm⟩ := view_seen r0
  have hn' := Lib.hid hn
  have hm' := Lib.hid hm
  have hM' := Lib.hid hM
  clear r0 hn hm hM
  by_cases hbig : (1048576 : Int) < (n0 : Int)
  · go_enter Try.func6, Try.ntmps6
    go_wp2_with fail
    refine (szSeenS_ _ _ _ _ ⟨by omega, by omega⟩ hm'.out _).mono ?_
    rintro e w1 ⟨rfl, rfl⟩
    rw [if_pos hbig]
    go_wp2_with fail
    go_ret
    exact ⟨rfl, Ext.refl _⟩
  · have hl : n0 ≤ 1048576 := by omega
    go_enter Try.func6, Try.ntmps6
    go_wp2_with fail
    refine (szSeenS_ _ _ _ _ ⟨by omega, by omega⟩ hm'.out _).mono ?_
    rintro e w1 ⟨rfl, rfl⟩
    rw [if_neg (by omega)]
    go_wp2_with fail
    refine (toSeenS_ _ _ _ _ l hn'.out hM'.out hl).mono ?_
    rintro e w2 ⟨rfl, hE2, hO2⟩
    have hM2 := Lib.hid hO2.els
    clear hO2
    go_wp2_with fail
    refine (sSeenOk _ _ _ _ l hn'.out hM2.out hl).mono ?_
    rintro e w3 ⟨rfl, hb3⟩
    have hE3 := Lib.hid (Ext.trans hE2 hb3)
    clear hb3 hE2
    go_wp2_with fail
    refine (toSeenS_ _ _ _ _ l hn'.out (els_up hM'.out hE3.out) hl).mono ?_
    rintro e w4 ⟨rfl, hE4, hO4⟩
    have hM4 := Lib.hid hO4.els
    have hE4' := Lib.hid (Ext.trans hE3.out hE4)
    clear hE4 hO4
    go_wp2_with fail
    refine (iSeenOk _ _ _ _ l hn'.out hM4.out hl).mono ?_
    rintro e w5 ⟨rfl, hb5⟩
    have hE5 := Lib.hid (Ext.trans hE4'.out hb5)
    have hM5 := Lib.hid (els_up hM4.out hb5)
    clear hb5
    go_wp2_with fail
    refine (toSeenS_ _ _ _ _ l hn'.out (els_up hM'.out hE5.out) hl).mono ?_
    rintro e w6 ⟨rfl, hE6, hO6⟩
    have hE6' := Lib.hid (Ext.trans hE5.out hE6)
    have hM6 := Lib.hid (els_up hM5.out hE6)
    have hM6' := Lib.hid hO6.els
    clear hE6 hO6
    go_wp2_with fail
    refine (eqSeenS_ _ _ _ _ _ _ l hn'.out hM6.out hM6'.out hl).mono ?_
    rintro e w7 ⟨rfl, hb7⟩
    have hE7 := Lib.hid (Ext.trans hE6'.out hb7)
    clear hb7
    go_wp2_with fail
    go_ret
    exact ⟨rfl, hE7.out⟩
end Go.Proofs.Ytchhjidldppciaa
