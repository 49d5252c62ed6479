/- Seen frames: lists of four numbers each. -/
import Derived.Test.YtkmklafjcjkpdaaEls
namespace Go.Proofs.Ytkmklafjcjkpdaa
open Go.RowKit
set_option linter.unusedVariables false
set_option linter.unusedSimpArgs false

structure Seen where
  frm : Int
  cat : Int
  sq : Int
  fr : Int
def kSeen : Kind Seen := { size := 4, hd := fun s _ => [.int .i64 s.frm, .int .i64 s.cat, .int .i64 s.sq, .int .i64 s.fr], bd := fun _ => [], hlen := fun _ _ => rfl }
theorem kSeen.ok (w : World) (B C G g : Nat) (s : Seen) : (⟨s, g, none, 0⟩ : El Seen).ok kSeen w B C G := ⟨fun _ => rfl, Nat.le_refl _, .inl rfl⟩
/-- The cells of element k. -/
theorem els_seen {w : World} {b off : Nat} {l : List Seen} (h : ∀ i (h : i < l.length), ∃ cs, kE kSeen w l[i] cs ∧ ∀ j u, cs[j]? = some u → w.cell? ⟨b, off + i * 4 + j, none⟩ = some u) (k : Nat) (hk : k < l.length) :
    w.cell? ⟨b, off + k * 4, none⟩ = some (.int .i64 l[k].frm) ∧ w.cell? ⟨b, off + k * 4 + 1, none⟩ = some (.int .i64 l[k].cat) ∧ w.cell? ⟨b, off + k * 4 + 2, none⟩ = some (.int .i64 l[k].sq) ∧
      w.cell? ⟨b, off + k * 4 + 3, none⟩ = some (.int .i64 l[k].fr) := by
  obtain ⟨cs, ⟨A, c, rfl, hr⟩, h2⟩ := h k hk
  exact ⟨h2 0 _ rfl, h2 1 _ rfl, h2 2 _ rfl, h2 3 _ rfl⟩
theorem elSeen : ElemTy Try.prog 64 131 4 32 := ElemTy.mk_ (z := .agg #[.int .i64 0, .int .i64 0, .int .i64 0, .int .i64 0]) Try.underlying64 (by kernel_rfl) (by kernel_rfl) (by decide)
/-- The first element that is about the station and the category. -/
def fnd (l : List Seen) (f c : Int) : Int := match l.findIdx? (fun s => s.frm == f && s.cat == c) with
  | none => -1
  | some i => i
theorem fnd_at {l : List Seen} {f c : Int} {k : Nat} (hk : k < l.length) (h : ∀ i (h : i < l.length), i < k → (l[i].frm == f && l[i].cat == c) = false) (h1 : l[k].frm = f) (h2 : l[k].cat = c) : fnd l f c = k := by
  have : l.findIdx? (fun s => s.frm == f && s.cat == c) = some k := by
    rw [List.findIdx?_eq_some_iff_getElem]
    exact ⟨hk, by simp [h1, h2], fun j hj => by simpa using h j (by omega) hj⟩
  simp [fnd, this]
theorem fnd_none {l : List Seen} {f c : Int} (h : ∀ i (h : i < l.length), i < l.length → (l[i].frm == f && l[i].cat == c) = false) : fnd l f c = -1 := by
  have : l.findIdx? (fun s => s.frm == f && s.cat == c) = none := by
    rw [List.findIdx?_eq_none_iff]
    intro x hx
    obtain ⟨i, hi, rfl⟩ := List.getElem_of_mem hx
    exact h i hi hi
  simp [fnd, this]
theorem fnd_next {l : List Seen} {f c : Int} {k : Nat} (hk : k < l.length) (h : ∀ i (h : i < l.length), i < k → (l[i].frm == f && l[i].cat == c) = false) (h1 : (l[k].frm == f && l[k].cat == c) = false) :
    ∀ i (h : i < l.length), i < k + 1 → (l[i].frm == f && l[i].cat == c) = false := by
  intro i hi hik
  by_cases h2 : i = k
  · subst h2; exact h1
  · exact h i hi (by omega)
theorem fnd_range (l : List Seen) (f c : Int) : fnd l f c = -1 ∨ ∃ i : Nat, ∃ h : i < l.length, fnd l f c = i ∧ l[i].frm = f ∧ l[i].cat = c := by
  unfold fnd
  cases h : l.findIdx? (fun s => s.frm == f && s.cat == c) with
  | none => exact .inl rfl
  | some i =>
    rw [List.findIdx?_eq_some_iff_getElem] at h
    obtain ⟨h1, h2, _⟩ := h
    simp at h2
    exact .inr ⟨i, h1, rfl, h2.1, h2.2⟩
theorem sFind (w : World) (A : Option Addr) (n c : Nat) (l : List Seen) (f ca : Int) (hn : l.length = n) (hM : Els w A 4 (kE kSeen) l) (hl : n ≤ 1048577) :
    Calls Try.prog 114 #[.slice A n c, .int .i64 f, .int .i64 ca] w fun e w' => e = .returned (.int .i64 (fnd l f ca)) ∧ Below w.heap.size w w' := by
  subst hn
  go_enter Try.func114, Try.ntmps114
  go_wp2
  go_loopw [7] (fun i wr => ∃ k : Nat, k ≤ l.length ∧ i = .int .i64 k ∧ Ext w wr ∧ Hid (∀ i (h : i < l.length), i < k → (l[i].frm == f && l[i].cat == ca) = false)) (fun i _ => l.length - (intOf i).toNat)
  case atStart => exact ⟨0, Nat.zero_le _, rfl, Ext.refl _, Lib.hid (fun i h h0 => absurd h0 (by omega))⟩
  case round =>
    obtain ⟨k, hk, rfl, hE, hI⟩ := hrel
    by_cases hlt : k < l.length
    · obtain ⟨b, off, rfl, hb, hc⟩ := (hM.ext hE (fun x cs h => kE.ext hE x cs h)).at_ (List.ne_nil_of_length_pos (by omega))
      obtain ⟨k0, k1, k2, k3⟩ := els_seen hc k hlt
      clear hc hM
      by_cases h1 : l[k].frm = f
      · by_cases h2 : l[k].cat = ca
        · have hF := Lib.hid (fnd_at hlt hI.out h1 h2)
          go_wp2
          go_ret
          exact ⟨(by rw [hF.out]; first | done | rfl), by first | exact hE | exact Ext.trans hE (Ext.alloc_ _ _)⟩
        · have hF := Lib.hid (fnd_next hlt hI.out (by simp [h2]))
          go_wp2
          go_roundw
          case rel => exact ⟨k + 1, by omega, by go_num, by first | exact hE | exact Ext.trans hE (Ext.alloc_ _ _), hF⟩
          case measure => simp [intOf]; omega
      · have hF := Lib.hid (fnd_next hlt hI.out (by simp [h1]))
        go_wp2
        go_roundw
        case rel => exact ⟨k + 1, by omega, by go_num, by first | exact hE | exact Ext.trans hE (Ext.alloc_ _ _), hF⟩
        case measure => simp [intOf]; omega
    · obtain rfl : k = l.length := by omega
      have hF := Lib.hid (fnd_none hI.out)
      clear hM
      go_wp2
      go_ret
      exact ⟨(by rw [hF.out]; first | done | rfl), hE⟩
theorem iFind (w : World) (A : Option Addr) (n c : Nat) (l : List Seen) (f ca : Int) (hn : l.length = n) (hM : Els w A 4 (kE kSeen) l) (hl : n ≤ 1048577) :
    Calls Try.prog 115 #[.slice A n c, .int .i64 f, .int .i64 ca] w fun e w' => e = .returned (.int .i64 (fnd l f ca)) ∧ Below w.heap.size w w' := by
  subst hn
  go_enter Try.func115, Try.ntmps115
  go_wp2
  go_loopw [11] (fun i wr => ∃ k : Nat, k ≤ l.length ∧ i = .int .i64 k ∧ Ext w wr ∧ Hid (∀ i (h : i < l.length), i < k → (l[i].frm == f && l[i].cat == ca) = false)) (fun i _ => l.length - (intOf i).toNat)
  case atStart => exact ⟨0, Nat.zero_le _, rfl, Ext.refl _, Lib.hid (fun i h h0 => absurd h0 (by omega))⟩
  case round =>
    obtain ⟨k, hk, rfl, hE, hI⟩ := hrel
    by_cases hlt : k < l.length
    · obtain ⟨b, off, rfl, hb, hc⟩ := (hM.ext hE (fun x cs h => kE.ext hE x cs h)).at_ (List.ne_nil_of_length_pos (by omega))
      obtain ⟨k0, k1, k2, k3⟩ := els_seen hc k hlt
      clear hc hM
      by_cases h1 : l[k].frm = f
      · by_cases h2 : l[k].cat = ca
        · have hF := Lib.hid (fnd_at hlt hI.out h1 h2)
          go_wp2
          go_ret
          exact ⟨(by rw [hF.out]; first | done | rfl), by first | exact hE | exact Ext.trans hE (Ext.alloc_ _ _)⟩
        · have hF := Lib.hid (fnd_next hlt hI.out (by simp [h2]))
          go_wp2
          go_roundw
          case rel => exact ⟨k + 1, by omega, by go_num, by first | exact hE | exact Ext.trans hE (Ext.alloc_ _ _), hF⟩
          case measure => simp [intOf]; omega
      · have hF := Lib.hid (fnd_next hlt hI.out (by simp [h1]))
        go_wp2
        go_roundw
        case rel => exact ⟨k + 1, by omega, by go_num, by first | exact hE | exact Ext.trans hE (Ext.alloc_ _ _), hF⟩
        case measure => simp [intOf]; omega
    · obtain rfl : k = l.length := by omega
      have hF := Lib.hid (fnd_none hI.out)
      clear hM
      go_wp2
      go_ret
      exact ⟨(by rw [hF.out]; first | done | rfl), hE⟩
end Go.Proofs.Ytkmklafjcjkpdaa
