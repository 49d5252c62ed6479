/- The laws on seen frames. -/
import Derived.Test.YtcjppmihmfcagaaSeen
import Derived.Test.YtcjppmihmfcagaaEls2
namespace Go.Proofs.Ytcjppmihmfcagaa
open Go.RowKit
set_option linter.unusedVariables false
set_option linter.unusedSimpArgs false

def okSeenAt (l : List Seen) (i : Nat) : Bool := match l[i]? with
  | none => true
  | some s => inB s.frm 0 15 && inB s.cat 0 3 && inB s.sq 0 4095 && inB s.fr 0 15 && (fnd l s.frm s.cat == (i : Int))
def okSeen (l : List Seen) : Bool := (List.range l.length).all (okSeenAt l)
theorem okSeenAt_eq {l : List Seen} {k : Nat} (hk : k < l.length) : okSeenAt l k = (inB l[k].frm 0 15 && inB l[k].cat 0 3 && inB l[k].sq 0 4095 && inB l[k].fr 0 15 && (fnd l l[k].frm l[k].cat == (k : Int))) := by
  simp [okSeenAt, hk]
theorem okSeen_not {l : List Seen} {k : Nat} (hk : k < l.length) (h : okSeenAt l k = false) : okSeen l = false := by
  unfold okSeen
  rw [List.all_eq_false]
  exact ⟨k, by simp [hk], by simp [h]⟩
theorem okSeen_all {l : List Seen} (h : ∀ i, i < l.length → okSeenAt l i = true) : okSeen l = true := by
  unfold okSeen
  rw [List.all_eq_true]
  intro x hx
  exact h x (by simpa using hx)
theorem okSeen_next {l : List Seen} {k : Nat} (h : ∀ i, i < k → okSeenAt l i = true) (h1 : okSeenAt l k = true) : ∀ i, i < k + 1 → okSeenAt l i = true := by
  intro i hi
  by_cases h2 : i = k
  · subst h2; exact h1
  · exact h i (by omega)
theorem cells_seen : Try.prog.cellsOf 102 = 4 := by kernel_rfl
theorem seen_rd {w : World} {cs : List Value} (h : Rd Try.prog w 102 cs) : ∃ s : Seen, kE kSeen w s cs := by
  have hl := (Rd.struct Try.underlying102 h).1
  rw [cells_seen] at hl
  obtain ⟨a, h1⟩ := int_f Try.underlying102 h 0 _ rfl Try.underlying3 cells_int1
  obtain ⟨b, h2⟩ := int_f Try.underlying102 h 1 _ rfl Try.underlying3 cells_int1
  obtain ⟨d, h3⟩ := int_f Try.underlying102 h 2 _ rfl Try.underlying3 cells_int1
  obtain ⟨f, h4⟩ := int_f Try.underlying102 h 3 _ rfl Try.underlying3 cells_int1
  match cs, hl with
  | [c0, c1, c2, c3], _ =>
    simp at h1 h2 h3 h4
    subst h1 h2 h3 h4
    exact ⟨⟨a, b, d, f⟩, none, 0, rfl, .inl rfl, fun _ => rfl, Nat.le_refl _⟩
theorem view_seen {w : World} {A : Option Addr} {n c : Nat} (h : Rd Try.prog w 60 [.slice A n c]) : ∃ l : List Seen, l.length = n ∧ Els w A 4 (kE kSeen) l ∧ n ≤ maxLen := by
  obtain ⟨l, h1, h2, h3, h4, h5⟩ := view_els Try.underlying60 (by rw [cells_seen]; decide) (fun es h => seen_rd h) h
  rw [cells_seen] at h2
  exact ⟨l, h1, h2, by omega⟩
/-- A slice that reads as seen frames. -/
def SP.seen (n : Nat) (l : List Seen) : SP :=
  { p := fun v w => ∃ A c, v = .slice A n c ∧ Els w A 4 (kE kSeen) l
    st := fun v w w' hE ⟨A, c, h1, h2⟩ => ⟨A, c, h1, h2.ext hE (fun x cs h => kE.ext hE x cs h)⟩ }
end Go.Proofs.Ytcjppmihmfcagaa
