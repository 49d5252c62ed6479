/- The plain law on duplicates. -/
import Derived.Test.YtkmklafjcjkpdaaAcc
namespace Go.Proofs.Ytkmklafjcjkpdaa
open Go.RowKit
set_option linter.unusedVariables false
set_option linter.unusedSimpArgs false
def hasKey (f c : Int) (s : Seen) : Bool := s.frm == f && s.cat == c
theorem fnd_def (l : List Seen) (f c : Int) : fnd l f c = match l.findIdx? (hasKey f c) with
  | none => -1
  | some i => (i : Int) := rfl
theorem fnd_neg {l : List Seen} {f c : Int} (h : fnd l f c < 0) : l.findIdx? (hasKey f c) = none := by
  rw [fnd_def] at h
  cases hx : l.findIdx? (hasKey f c) with
  | none => rfl
  | some i => rw [hx] at h; simp at h; omega
theorem fnd_pos {l : List Seen} {f c : Int} (h : ¬ fnd l f c < 0) : ∃ k : Nat, ∃ hk : k < l.length, l.findIdx? (hasKey f c) = some k ∧ fnd l f c = k ∧ l[k].frm = f ∧ l[k].cat = c := by
  rw [fnd_def] at h ⊢
  cases hx : l.findIdx? (hasKey f c) with
  | none => rw [hx] at h; simp at h
  | some i =>
    have := List.findIdx?_eq_some_iff_getElem.1 hx
    obtain ⟨hk, h1, _⟩ := this
    simp [hasKey] at h1
    exact ⟨i, hk, rfl, rfl, h1.1, h1.2⟩
theorem fnd_key {l l' : List Seen} (h : l.map (fun s => (s.frm, s.cat)) = l'.map (fun s => (s.frm, s.cat))) (f c : Int) : fnd l f c = fnd l' f c := by
  have key : ∀ m : List Seen, m.findIdx? (hasKey f c) = (m.map (fun s => (s.frm, s.cat))).findIdx? (fun p => p.1 == f && p.2 == c) := by
    intro m
    rw [List.findIdx?_map]
    rfl
  rw [fnd_def, fnd_def, key, key, h]
theorem fnd_app {l : List Seen} {e : Seen} {f c : Int} (h : ¬ fnd l f c < 0) : fnd (l ++ [e]) f c = fnd l f c := by
  obtain ⟨k, hk, h1, h2, _⟩ := fnd_pos h
  rw [h2, fnd_def, List.findIdx?_append, h1]
  rfl
theorem fnd_new {l : List Seen} {e : Seen} {f c : Int} (h : fnd l f c < 0) (h1 : e.frm = f) (h2 : e.cat = c) : fnd (l ++ [e]) f c = l.length := by
  rw [fnd_def, List.findIdx?_append, fnd_neg h]
  simp [hasKey, h1, h2, List.findIdx?_cons]
theorem key_set {l : List Seen} {e : Seen} {k : Nat} (hk : k < l.length) (h1 : l[k].frm = e.frm) (h2 : l[k].cat = e.cat) : (l.set k e).map (fun s => (s.frm, s.cat)) = l.map (fun s => (s.frm, s.cat)) := by
  rw [List.map_set]
  refine List.ext_getElem (by simp) fun i hi hj => ?_
  rw [List.getElem_set]
  split
  · rename_i he
    subst he
    simp [h1, h2]
  · rfl
theorem rem_at (l : List Seen) (fm sq fr ca : Int) : ∃ k : Nat, ∃ h : k < (remS l fm sq fr ca).length, fnd (remS l fm sq fr ca) fm ca = k ∧ (remS l fm sq fr ca)[k] = ⟨fm, ca, sq, fr⟩ := by
  by_cases h : fnd l fm ca < 0
  · have e : remS l fm sq fr ca = l ++ [⟨fm, ca, sq, fr⟩] := by simp [remS, h]
    rw [e]
    exact ⟨l.length, by simp, fnd_new h rfl rfl, by simp⟩
  · obtain ⟨k, hk, h1, h2, h3, h4⟩ := fnd_pos h
    have e : remS l fm sq fr ca = l.set k ⟨fm, ca, sq, fr⟩ := by rw [remS, if_neg h, h2, Int.toNat_natCast]
    rw [e]
    exact ⟨k, by simpa using hk, by rw [fnd_key (key_set hk h3 h4), h2], by simp⟩
theorem acc_at (l : List Seen) (fm sq fr : Int) (re : Bool) (ca : Int) : ∃ k : Nat, ∃ h : k < (accL l fm sq fr re ca).length, fnd (accL l fm sq fr re ca) fm ca = k ∧ (accL l fm sq fr re ca)[k].sq = sq ∧ (accL l fm sq fr re ca)[k].fr = fr := by
  by_cases hd : dupB l fm sq fr re ca = true
  · have e : accL l fm sq fr re ca = l := by simp [accL, hd]
    rw [e]
    have hp : ¬ fnd l fm ca < 0 := by
      intro h
      have : fnd l fm ca = -1 := by rw [fnd_def, fnd_neg h]
      rw [dupB_no this] at hd
      cases hd
    obtain ⟨k, hk, h1, h2, h3, h4⟩ := fnd_pos hp
    rw [dupB_at hk h2] at hd
    simp at hd
    exact ⟨k, hk, h2, hd.2.1, hd.2.2⟩
  · have e : accL l fm sq fr re ca = remS l fm sq fr ca := by simp [accL, hd]
    rw [e]
    obtain ⟨k, hk, h1, h2⟩ := rem_at l fm sq fr ca
    exact ⟨k, hk, h1, by rw [h2], by rw [h2]⟩
theorem dup_again (l : List Seen) (fm sq fr : Int) (re : Bool) (ca : Int) : dupB (accL l fm sq fr re ca) fm sq fr true ca = true := by
  obtain ⟨k, hk, h1, h2, h3⟩ := acc_at l fm sq fr re ca
  rw [dupB_at hk h1, h2, h3]
  simp
theorem acc_again (l : List Seen) (fm sq fr : Int) (re : Bool) (ca : Int) : accL (accL l fm sq fr re ca) fm sq fr true ca = accL l fm sq fr re ca := by
  rw [accL, if_pos (dup_again l fm sq fr re ca)]
theorem dup_next (l : List Seen) (fm sq fr : Int) (re re' : Bool) (ca : Int) : dupB (accL l fm sq fr re ca) fm (sq + 1) fr re' ca = false := by
  obtain ⟨k, hk, h1, h2, h3⟩ := acc_at l fm sq fr re ca
  rw [dupB_at hk h1, h2]
  have : (sq == sq + 1) = false := by simp; omega
  rw [this]
  simp
theorem okSeen_at {l : List Seen} (h : okSeen l = true) {k : Nat} (hk : k < l.length) : okSeenAt l k = true := by
  unfold okSeen at h
  exact List.all_eq_true.1 h k (List.mem_range.2 hk)
theorem ok_acc {l : List Seen} {fm sq fr : Int} {re : Bool} {ca : Int} (h : okSeen l = true) (h1 : inB fm 0 15 = true) (h2 : inB ca 0 3 = true) (h3 : inB sq 0 4095 = true) (h4 : inB fr 0 15 = true) : okSeen (accL l fm sq fr re ca) = true := by
  by_cases hd : dupB l fm sq fr re ca = true
  · rw [accL, if_pos hd]
    exact h
  rw [accL, if_neg hd]
  by_cases hf : fnd l fm ca < 0
  · have e : remS l fm sq fr ca = l ++ [⟨fm, ca, sq, fr⟩] := by simp [remS, hf]
    rw [e]
    refine okSeen_all fun i hi => ?_
    rw [okSeenAt_eq hi]
    by_cases hil : i < l.length
    · have hk := okSeen_at h hil
      rw [okSeenAt_eq hil] at hk
      simp only [Bool.and_eq_true, beq_iff_eq] at hk
      obtain ⟨⟨⟨⟨g1, g2⟩, g3⟩, g4⟩, g5⟩ := hk
      have hx : (l ++ [(⟨fm, ca, sq, fr⟩ : Seen)])[i] = l[i] := List.getElem_append_left hil
      rw [hx, g1, g2, g3, g4, fnd_app (by rw [g5]; omega), g5]
      simp
    · have hi' : i = l.length := by simp at hi; omega
      subst hi'
      simp [h1, h2, h3, h4, fnd_new hf]
  · obtain ⟨k, hk, q1, q2, q3, q4⟩ := fnd_pos hf
    have e : remS l fm sq fr ca = l.set k ⟨fm, ca, sq, fr⟩ := by rw [remS, if_neg hf, q2, Int.toNat_natCast]
    rw [e]
    refine okSeen_all fun i hi => ?_
    rw [okSeenAt_eq hi, fnd_key (key_set hk q3 q4)]
    have hil : i < l.length := by simpa using hi
    by_cases hik : k = i
    · subst hik
      simp [h1, h2, h3, h4, q2]
    · have hg := okSeen_at h hil
      rw [okSeenAt_eq hil] at hg
      rw [List.getElem_set_ne hik]
      exact hg
end Go.Proofs.Ytkmklafjcjkpdaa
