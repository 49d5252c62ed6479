/- The laws on seen frames. -/
import Derived.Test.YtkmklafjcjkpdaaSeen
import Derived.Test.YtkmklafjcjkpdaaEls2
namespace Go.Proofs.Ytkmklafjcjkpdaa
open Go.RowKit
set_option linter.unusedVariables false
set_option linter.unusedSimpArgs false

def okSeenAt (l : List Seen) (i : Nat) : Bool := match l[i]? with
  | none => true
  | some s => inB s.frm 0 15 && inB s.cat 0 3 && inB s.sq 0 4095 && inB s.fr 0 15 && (fnd l s.frm s.cat == (i : Int))
def okSeen (l : List Seen) : Bool := (List.range l.length).all (okSeenAt l)
theorem okSeenAt_eq {l : List Seen} {k : Nat} (hk : k < l.length) : okSeenAt l k = (inB l[k].frm 0 15 && inB l[k].cat 0 3 && inB l[k].sq 0 4095 && inB l[k].fr 0 15 && (fnd l l[k].frm l[k].cat == (k : Int))) := by
  simp [okSeenAt, hk]
theorem okSeen_not {l : List Seen} {k : Nat} (hk : k < l.length) (h : okSeenAt l k = false) : okSeen l = false := by
  unfold okSeen
  rw [List.all_eq_false]
  exact ⟨k, by simp [hk], by simp [h]⟩
theorem okSeen_all {l : List Seen} (h : ∀ i, i < l.length → okSeenAt l i = true) : okSeen l = true := by
  unfold okSeen
  rw [List.all_eq_true]
  intro x hx
  exact h x (by simpa using hx)
theorem okSeen_next {l : List Seen} {k : Nat} (h : ∀ i, i < k → okSeenAt l i = true) (h1 : okSeenAt l k = true) : ∀ i, i < k + 1 → okSeenAt l i = true := by
  intro i hi
  by_cases h2 : i = k
  · subst h2; exact h1
  · exact h i (by omega)
set_option maxHeartbeats 1600000 in
theorem sSeenOk (w : World) (A : Option Addr) (n c : Nat) (l : List Seen) (hn : l.length = n) (hM : Els w A 4 (kE kSeen) l) (hl : n ≤ 1048576) :
    Calls Try.prog 48 #[.slice A n c] w fun e w' => e = .returned (.bool (okSeen l)) ∧ Below w.heap.size w w' := by
  subst hn
  have H1 := Lib.hid hM
  go_enter Try.func48, Try.ntmps48
  go_wp2
  go_loopw [3] (fun i wr => ∃ k : Nat, k ≤ l.length ∧ i = .int .i64 k ∧ Ext w wr ∧ Hid (∀ i, i < k → okSeenAt l i = true)) (fun i _ => l.length - (intOf i).toNat)
  case atStart => exact ⟨0, Nat.zero_le _, rfl, Ext.refl _, Lib.hid (fun i h => absurd h (by omega))⟩
  case round =>
    obtain ⟨k, hk, rfl, hE, hI⟩ := hrel
    by_cases hlt : k < l.length
    · obtain ⟨b, off, hA, hb, hc⟩ := (hM.ext hE (fun x cs h => kE.ext hE x cs h)).at_ (List.ne_nil_of_length_pos (by omega))
      have H2 := Lib.hid ((H1.out.ext hE (fun x cs h => kE.ext hE x cs h)).ext (Ext.alloc_ wr (.cells #[.int .i64 l[k].frm, .int .i64 l[k].cat, .int .i64 l[k].sq, .int .i64 l[k].fr] 131)) (fun x cs h => kE.ext (Ext.alloc_ _ _) x cs h))
      subst hA
      obtain ⟨k0, k1, k2, k3⟩ := els_seen hc k hlt
      have hat := Lib.hid (okSeenAt_eq hlt)
      clear hc
      by_cases h1 : inB l[k].frm 0 15 = true
      · by_cases h2 : inB l[k].cat 0 3 = true
        · by_cases h3 : inB l[k].sq 0 4095 = true
          · by_cases h4 : inB l[k].fr 0 15 = true
            · by_cases h5 : fnd l l[k].frm l[k].cat = (k : Int)
              · have hF := Lib.hid (okSeen_next hI.out (by rw [hat.out, h1, h2, h3, h4]; simp [h5]))
                clear hM H1
                go_wp2_with (first | (first | (go_at_call 92; refine (sIn _ _ _ _).mono ?_; rintro e w' ⟨rfl, rfl⟩) ) | (go_at_call 114; refine (sFind _ _ _ _ l _ _ rfl H2.out (by omega)).mono ?_; rintro e w' ⟨rfl, hb1⟩; rw [h5]))
                go_roundw
                case rel => exact ⟨k + 1, by omega, by go_num, Ext.trans (Ext.trans hE (Ext.alloc_ _ _)) hb1, hF⟩
                case measure => simp [intOf]; omega
              · have hF := Lib.hid (okSeen_not hlt (by rw [hat.out]; simp [h5]))
                clear hM H1
                have h6 := fnd_range l l[k].frm l[k].cat
                generalize hq : fnd l l[k].frm l[k].cat = q at *
                have hq' := Lib.hid hq
                clear hq h6
                go_wp2_with (first | (first | (go_at_call 92; refine (sIn _ _ _ _).mono ?_; rintro e w' ⟨rfl, rfl⟩) ) | (go_at_call 114; refine (sFind _ _ _ _ l _ _ rfl H2.out (by omega)).mono ?_; rintro e w' ⟨rfl, hb1⟩; rw [hq'.out]))
                go_ret
                exact ⟨(by rw [hF.out]; first | done | rfl), Ext.trans (Ext.trans hE (Ext.alloc_ _ _)) hb1⟩
            · have h4' : inB l[k].fr 0 15 = false := by simpa using h4
              have hF := Lib.hid (okSeen_not hlt (by rw [hat.out, h4']; simp))
              clear hM H1
              go_wp2_with (first | (go_at_call 92; refine (sIn _ _ _ _).mono ?_; rintro e w' ⟨rfl, rfl⟩) )
              go_ret
              exact ⟨(by rw [hF.out]; first | done | rfl), Ext.trans hE (Ext.alloc_ _ _)⟩
          · have h3' : inB l[k].sq 0 4095 = false := by simpa using h3
            have hF := Lib.hid (okSeen_not hlt (by rw [hat.out, h3']; simp))
            clear hM H1
            go_wp2_with (first | (go_at_call 92; refine (sIn _ _ _ _).mono ?_; rintro e w' ⟨rfl, rfl⟩) )
            go_ret
            exact ⟨(by rw [hF.out]; first | done | rfl), Ext.trans hE (Ext.alloc_ _ _)⟩
        · have h2' : inB l[k].cat 0 3 = false := by simpa using h2
          have hF := Lib.hid (okSeen_not hlt (by rw [hat.out, h2']; simp))
          clear hM H1
          go_wp2_with (first | (go_at_call 92; refine (sIn _ _ _ _).mono ?_; rintro e w' ⟨rfl, rfl⟩) )
          go_ret
          exact ⟨(by rw [hF.out]; first | done | rfl), Ext.trans hE (Ext.alloc_ _ _)⟩
      · have h1' : inB l[k].frm 0 15 = false := by simpa using h1
        have hF := Lib.hid (okSeen_not hlt (by rw [hat.out, h1']; simp))
        clear hM H1
        go_wp2_with (first | (go_at_call 92; refine (sIn _ _ _ _).mono ?_; rintro e w' ⟨rfl, rfl⟩) )
        go_ret
        exact ⟨(by rw [hF.out]; first | done | rfl), Ext.trans hE (Ext.alloc_ _ _)⟩
    · obtain rfl : k = l.length := by omega
      have hF := Lib.hid (okSeen_all hI.out)
      clear hM
      go_wp2
      go_ret
      exact ⟨(by rw [hF.out]; first | done | rfl), hE⟩
set_option maxHeartbeats 1600000 in
theorem iSeenOk (w : World) (A : Option Addr) (n c : Nat) (l : List Seen) (hn : l.length = n) (hM : Els w A 4 (kE kSeen) l) (hl : n ≤ 1048576) :
    Calls Try.prog 49 #[.slice A n c] w fun e w' => e = .returned (.bool (okSeen l)) ∧ Below w.heap.size w w' := by
  subst hn
  have H1 := Lib.hid hM
  go_enter Try.func49, Try.ntmps49
  go_wp2
  go_loopw [7] (fun i wr => ∃ k : Nat, k ≤ l.length ∧ i = .int .i64 k ∧ Ext w wr ∧ Hid (∀ i, i < k → okSeenAt l i = true)) (fun i _ => l.length - (intOf i).toNat)
  case atStart => exact ⟨0, Nat.zero_le _, rfl, Ext.refl _, Lib.hid (fun i h => absurd h (by omega))⟩
  case round =>
    obtain ⟨k, hk, rfl, hE, hI⟩ := hrel
    by_cases hlt : k < l.length
    · obtain ⟨b, off, hA, hb, hc⟩ := (hM.ext hE (fun x cs h => kE.ext hE x cs h)).at_ (List.ne_nil_of_length_pos (by omega))
      have H2 := Lib.hid ((H1.out.ext hE (fun x cs h => kE.ext hE x cs h)).ext (Ext.alloc_ wr (.cells #[.int .i64 l[k].frm, .int .i64 l[k].cat, .int .i64 l[k].sq, .int .i64 l[k].fr] 131)) (fun x cs h => kE.ext (Ext.alloc_ _ _) x cs h))
      subst hA
      obtain ⟨k0, k1, k2, k3⟩ := els_seen hc k hlt
      have hat := Lib.hid (okSeenAt_eq hlt)
      clear hc
      by_cases h1 : inB l[k].frm 0 15 = true
      · by_cases h2 : inB l[k].cat 0 3 = true
        · by_cases h3 : inB l[k].sq 0 4095 = true
          · by_cases h4 : inB l[k].fr 0 15 = true
            · by_cases h5 : fnd l l[k].frm l[k].cat = (k : Int)
              · have hF := Lib.hid (okSeen_next hI.out (by rw [hat.out, h1, h2, h3, h4]; simp [h5]))
                clear hM H1
                go_wp2_with (first | (first | (go_at_call 94; refine (iIn _ _ _ _).mono ?_; rintro e w' ⟨rfl, rfl⟩)  | (go_at_call 116; refine (iStation _ _).mono ?_; rintro e w' ⟨rfl, rfl⟩) | (go_at_call 97; refine (iCat _ _).mono ?_; rintro e w' ⟨rfl, rfl⟩)) | (go_at_call 115; refine (iFind _ _ _ _ l _ _ rfl H2.out (by omega)).mono ?_; rintro e w' ⟨rfl, hb1⟩; rw [h5]))
                go_roundw
                case rel => exact ⟨k + 1, by omega, by go_num, Ext.trans (Ext.trans hE (Ext.alloc_ _ _)) hb1, hF⟩
                case measure => simp [intOf]; omega
              · have hF := Lib.hid (okSeen_not hlt (by rw [hat.out]; simp [h5]))
                clear hM H1
                have h6 := fnd_range l l[k].frm l[k].cat
                generalize hq : fnd l l[k].frm l[k].cat = q at *
                have hq' := Lib.hid hq
                clear hq h6
                go_wp2_with (first | (first | (go_at_call 94; refine (iIn _ _ _ _).mono ?_; rintro e w' ⟨rfl, rfl⟩)  | (go_at_call 116; refine (iStation _ _).mono ?_; rintro e w' ⟨rfl, rfl⟩) | (go_at_call 97; refine (iCat _ _).mono ?_; rintro e w' ⟨rfl, rfl⟩)) | (go_at_call 115; refine (iFind _ _ _ _ l _ _ rfl H2.out (by omega)).mono ?_; rintro e w' ⟨rfl, hb1⟩; rw [hq'.out]))
                go_ret
                exact ⟨(by rw [hF.out]; first | done | rfl), Ext.trans (Ext.trans hE (Ext.alloc_ _ _)) hb1⟩
            · have h4' : inB l[k].fr 0 15 = false := by simpa using h4
              have hF := Lib.hid (okSeen_not hlt (by rw [hat.out, h4']; simp))
              clear hM H1
              go_wp2_with (first | (go_at_call 94; refine (iIn _ _ _ _).mono ?_; rintro e w' ⟨rfl, rfl⟩)  | (go_at_call 116; refine (iStation _ _).mono ?_; rintro e w' ⟨rfl, rfl⟩) | (go_at_call 97; refine (iCat _ _).mono ?_; rintro e w' ⟨rfl, rfl⟩))
              go_ret
              exact ⟨(by rw [hF.out]; first | done | rfl), Ext.trans hE (Ext.alloc_ _ _)⟩
          · have h3' : inB l[k].sq 0 4095 = false := by simpa using h3
            have hF := Lib.hid (okSeen_not hlt (by rw [hat.out, h3']; simp))
            clear hM H1
            go_wp2_with (first | (go_at_call 94; refine (iIn _ _ _ _).mono ?_; rintro e w' ⟨rfl, rfl⟩)  | (go_at_call 116; refine (iStation _ _).mono ?_; rintro e w' ⟨rfl, rfl⟩) | (go_at_call 97; refine (iCat _ _).mono ?_; rintro e w' ⟨rfl, rfl⟩))
            go_ret
            exact ⟨(by rw [hF.out]; first | done | rfl), Ext.trans hE (Ext.alloc_ _ _)⟩
        · have h2' : inB l[k].cat 0 3 = false := by simpa using h2
          have hF := Lib.hid (okSeen_not hlt (by rw [hat.out, h2']; simp))
          clear hM H1
          go_wp2_with (first | (go_at_call 94; refine (iIn _ _ _ _).mono ?_; rintro e w' ⟨rfl, rfl⟩)  | (go_at_call 116; refine (iStation _ _).mono ?_; rintro e w' ⟨rfl, rfl⟩) | (go_at_call 97; refine (iCat _ _).mono ?_; rintro e w' ⟨rfl, rfl⟩))
          go_ret
          exact ⟨(by rw [hF.out]; first | done | rfl), Ext.trans hE (Ext.alloc_ _ _)⟩
      · have h1' : inB l[k].frm 0 15 = false := by simpa using h1
        have hF := Lib.hid (okSeen_not hlt (by rw [hat.out, h1']; simp))
        clear hM H1
        go_wp2_with (first | (go_at_call 94; refine (iIn _ _ _ _).mono ?_; rintro e w' ⟨rfl, rfl⟩)  | (go_at_call 116; refine (iStation _ _).mono ?_; rintro e w' ⟨rfl, rfl⟩) | (go_at_call 97; refine (iCat _ _).mono ?_; rintro e w' ⟨rfl, rfl⟩))
        go_ret
        exact ⟨(by rw [hF.out]; first | done | rfl), Ext.trans hE (Ext.alloc_ _ _)⟩
    · obtain rfl : k = l.length := by omega
      have hF := Lib.hid (okSeen_all hI.out)
      clear hM
      go_wp2
      go_ret
      exact ⟨(by rw [hF.out]; first | done | rfl), hE⟩
/-- A slice that reads as seen frames. -/
def SP.seen (n : Nat) (l : List Seen) : SP :=
  { p := fun v w => ∃ A c, v = .slice A n c ∧ Els w A 4 (kE kSeen) l
    st := fun v w w' hE ⟨A, c, h1, h2⟩ => ⟨A, c, h1, h2.ext hE (fun x cs h => kE.ext hE x cs h)⟩ }
end Go.Proofs.Ytkmklafjcjkpdaa
