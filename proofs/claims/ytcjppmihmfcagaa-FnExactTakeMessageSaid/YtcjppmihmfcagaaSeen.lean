/- Seen frames: lists of four numbers each. -/
import Derived.Test.YtcjppmihmfcagaaEls
namespace Go.Proofs.Ytcjppmihmfcagaa
open Go.RowKit
set_option linter.unusedVariables false
set_option linter.unusedSimpArgs false

structure Seen where
  frm : Int
  cat : Int
  sq : Int
  fr : Int
def kSeen : Kind Seen := { size := 4, hd := fun s _ => [.int .i64 s.frm, .int .i64 s.cat, .int .i64 s.sq, .int .i64 s.fr], bd := fun _ => [], hlen := fun _ _ => rfl }
theorem kSeen.ok (w : World) (B C G g : Nat) (s : Seen) : (⟨s, g, none, 0⟩ : El Seen).ok kSeen w B C G := ⟨fun _ => rfl, Nat.le_refl _, .inl rfl⟩
/-- The cells of element k. -/
theorem els_seen {w : World} {b off : Nat} {l : List Seen} (h : ∀ i (h : i < l.length), ∃ cs, kE kSeen w l[i] cs ∧ ∀ j u, cs[j]? = some u → w.cell? ⟨b, off + i * 4 + j, none⟩ = some u) (k : Nat) (hk : k < l.length) :
    w.cell? ⟨b, off + k * 4, none⟩ = some (.int .i64 l[k].frm) ∧ w.cell? ⟨b, off + k * 4 + 1, none⟩ = some (.int .i64 l[k].cat) ∧ w.cell? ⟨b, off + k * 4 + 2, none⟩ = some (.int .i64 l[k].sq) ∧
      w.cell? ⟨b, off + k * 4 + 3, none⟩ = some (.int .i64 l[k].fr) := by
  obtain ⟨cs, ⟨A, c, rfl, hr⟩, h2⟩ := h k hk
  exact ⟨h2 0 _ rfl, h2 1 _ rfl, h2 2 _ rfl, h2 3 _ rfl⟩
theorem toSeen_ (w : World) (f c s r : Int) : Calls Try.prog 81 #[.agg #[.int .i64 f, .int .i64 c, .int .i64 s, .int .i64 r]] w
    fun e w' => e = .returned (.agg #[.int .i64 f, .int .i64 c, .int .i64 s, .int .i64 r]) ∧ Ext w w' := by
  go_enter Try.func81, Try.ntmps81
  go_wp2_with fail
  exact bodyPost_ret (v := .agg #[.int .i64 f, .int .i64 c, .int .i64 s, .int .i64 r]) (by simp [results, Try.results81, go_sem]) rfl ⟨rfl, Ext.trans (Ext.trans (Ext.alloc_ _ _) (Ext.alloc_ _ _)) (Ext.alloc_ _ _)⟩
theorem elSeen : ElemTy Try.prog 62 100 4 32 := ElemTy.mk_ (z := .agg #[.int .i64 0, .int .i64 0, .int .i64 0, .int .i64 0]) Try.underlying62 (by kernel_rfl) (by kernel_rfl) (by decide)
theorem toSeenS_ (w : World) (A : Option Addr) (n c : Nat) (l : List Seen) (hn : l.length = n) (hM : Els w A 4 (kE kSeen) l) (hl : n ≤ 1048576) :
    Calls Try.prog 42 #[.slice A n c] w fun e w' => e = .returned (.slice (some ⟨w.heap.size, 0, none⟩) n n) ∧ Ext w w' ∧ Own kSeen w' w.heap.size w'.heap.size (some ⟨w.heap.size, 0, none⟩) l := by
  obtain ⟨cs, hcs, hmk⟩ := make_els elSeen n (by omega) (by omega)
  subst hn
  have hF0 := Lib.hid (Fil.zero (K := kSeen) (l := l) (B := w.heap.size) (Nat.le_refl _) (new_blk1 w cs 100) hcs)
  clear hcs
  go_enter Try.func42, Try.ntmps42
  go_wp2
  go_loopw [4] (fun i wr => ∃ k : Nat, k ≤ l.length ∧ i = .int .i64 k ∧ Ext w wr ∧ Fil kSeen wr w.heap.size w.heap.size l.length l k) (fun i _ => l.length - (intOf i).toNat)
  case atStart => exact ⟨0, Nat.zero_le _, rfl, Ext.alloc_ _ _, hF0.out⟩
  case round =>
    obtain ⟨k, hk, rfl, hE, hF⟩ := hrel
    clear hF0 hmk
    by_cases hlt : k < l.length
    · obtain ⟨b, off, rfl, hb, hc⟩ := (hM.ext hE (fun x cs h => kE.ext hE x cs h)).at_ (List.ne_nil_of_length_pos (by omega))
      obtain ⟨k0, k1, k2, k3⟩ := els_seen hc k hlt
      have hF' := Lib.hid hF
      clear hc hM hF
      go_wp2_with fail
      refine (toSeen_ _ _ _ _ _).mono ?_
      rintro e w2 ⟨rfl, hb2⟩
      obtain ⟨hu, hfz, hG⟩ := (hF'.out.ext hb2).at_ hlt
      obtain ⟨u0, g0⟩ := hu 0 (by decide)
      obtain ⟨u1, g1⟩ := hu 1 (by decide)
      obtain ⟨u2, g2⟩ := hu 2 (by decide)
      obtain ⟨u3, g3⟩ := hu 3 (by decide)
      rw [Nat.add_zero] at g0
      have hb2' := Lib.hid hb2
      clear hu hb2
      simp only [show kSeen.size = 4 from rfl] at g0 g1 g2 g3
      go_wp2_with fail
      go_roundw
      case rel =>
        have hs := hF'.out.step (g := w2.heap.size) (A := none) (c := 0) hb2'.out hlt (Nat.le_refl _) hb2'.out.size (kSeen.ok _ _ _ _ _ _)
        exact ⟨k + 1, by omega, by go_num, setW_ext (G := w.heap.size) (Nat.le_refl _) (kSeen.hd l[k] (.slice none 0 0)) w2 (k * 4) (Ext.trans hE hb2'.out), hs⟩
      case measure => simp [intOf]; omega
    · obtain rfl : k = l.length := by omega
      have hF' := Lib.hid hF
      clear hM hF
      go_wp2
      go_ret
      exact ⟨rfl, hE, hF'.out.done⟩
theorem szSeenS_ (A : Option Addr) (n c : Nat) (left : Int) (hl : 0 ≤ left ∧ left ≤ 1048576) (hn : n ≤ maxLen) (w : World) :
    Calls Try.prog 40 #[.slice A n c, .int .i64 left] w fun e w' => e = .returned (.int .i64 (if left < (n : Int) then -1 else left - n)) ∧ w = w' := by
  have hn' : n ≤ 9223372036854775807 := by unfold maxLen at hn; omega
  clear hn
  by_cases h : left < (n : Int)
  · rw [if_pos h]
    have h2 : left - (n : Int) < 0 := by omega
    go_enter Try.func40, Try.ntmps40
    go_wp2
    go_ret
    exact ⟨rfl, rfl⟩
  · rw [if_neg h]
    have h2 : ¬ left - (n : Int) < 0 := by omega
    go_enter Try.func40, Try.ntmps40
    go_wp2
    go_ret
    exact ⟨rfl, rfl⟩
theorem eqSeen_ (w : World) (f c s r : Int) : Calls Try.prog 84 #[.agg #[.int .i64 f, .int .i64 c, .int .i64 s, .int .i64 r], .agg #[.int .i64 f, .int .i64 c, .int .i64 s, .int .i64 r]] w
    fun e w' => e = .returned (.bool true) ∧ Below w.heap.size w w' := by
  go_enter Try.func84, Try.ntmps84
  go_wp2_with fail
  go_ret
  exact ⟨rfl, Ext.trans (Ext.alloc_ _ _) (Ext.alloc_ _ _)⟩
theorem eqSeenS_ (w : World) (A A' : Option Addr) (n c c' : Nat) (l : List Seen) (hn : l.length = n) (hM : Els w A 4 (kE kSeen) l) (hM' : Els w A' 4 (kE kSeen) l) (hl : n ≤ 1048577) :
    Calls Try.prog 44 #[.slice A n c, .slice A' n c'] w fun e w' => e = .returned (.bool true) ∧ Below w.heap.size w w' := by
  subst hn
  go_enter Try.func44, Try.ntmps44
  go_wp2
  go_loopw [5] (fun i wr => ∃ k : Nat, k ≤ l.length ∧ i = .int .i64 k ∧ Ext w wr) (fun i _ => l.length - (intOf i).toNat)
  case atStart => exact ⟨0, Nat.zero_le _, rfl, Ext.refl _⟩
  case round =>
    obtain ⟨k, hk, rfl, hE⟩ := hrel
    by_cases hlt : k < l.length
    · obtain ⟨b, off, rfl, hb, hc⟩ := (hM.ext hE (fun x cs h => kE.ext hE x cs h)).at_ (List.ne_nil_of_length_pos (by omega))
      obtain ⟨b', off', rfl, hb', hc'⟩ := (hM'.ext hE (fun x cs h => kE.ext hE x cs h)).at_ (List.ne_nil_of_length_pos (by omega))
      obtain ⟨k0, k1, k2, k3⟩ := els_seen hc k hlt
      obtain ⟨m0, m1, m2, m3⟩ := els_seen hc' k hlt
      clear hc hM hc' hM'
      go_wp2_with fail
      refine wp_region_chain 10 (by kernel_rfl) (by kernel_rfl) ?_
      simp only [List.take_succ_cons, List.take_zero, List.drop_succ_cons, List.drop_zero]
      repeat (apply Chain.quiet; · (intro vs wq hEq hd; obtain ⟨hcq, hfq⟩ := bcell hEq; clear hEq hd; (try simp only [Act.put, SP.pick, SP.is, SP.box, id_eq, List.take_succ_cons, List.take_zero, List.drop_succ_cons, List.drop_zero, List.setIfInBounds_toArray, List.set_cons_zero, List.set_cons_succ]); refine growOp_go ?_; go_simp; exact ⟨Ext.refl _, rfl⟩))
      apply Chain.quiet
      · intro vs wq hE hd
        clear hd
        (try simp only [Act.put, SP.pick, SP.is, SP.box, id_eq, List.take_succ_cons, List.take_zero, List.drop_succ_cons, List.drop_zero, List.setIfInBounds_toArray, List.set_cons_zero, List.set_cons_succ])
        refine growOp_go ?_
        go_simp
        refine (eqSeen_ _ _ _ _ _).mono ?_
        rintro e w7 ⟨rfl, hb7⟩
        first | exact ⟨rfl, hb7⟩ | exact ⟨_, rfl, hb7, rfl⟩
      repeat (apply Chain.quiet; · (intro vs wq hEq hd; obtain ⟨hcq, hfq⟩ := bcell hEq; clear hEq hd; (try simp only [Act.put, SP.pick, SP.is, SP.box, id_eq, List.take_succ_cons, List.take_zero, List.drop_succ_cons, List.drop_zero, List.setIfInBounds_toArray, List.set_cons_zero, List.set_cons_succ]); refine growOp_go ?_; go_simp; exact ⟨Ext.refl _, rfl⟩))
      refine Chain.done ?_
      intro vs w8 hE8 hd8
      simp only [Act.put, SP.pick, SP.is, SP.box, id_eq, List.take_succ_cons, List.take_zero, List.drop_succ_cons, List.drop_zero, List.setIfInBounds_toArray, List.set_cons_zero, List.set_cons_succ]
      clear hd8
      go_wp2
      go_roundw
      case rel => exact ⟨k + 1, by omega, by go_num, Ext.trans hE hE8⟩
      case measure => simp [intOf]; omega
    · clear hM hM'
      go_wp2
      go_ret
      exact ⟨rfl, hE⟩
/-- The first element that is about the station and the category. -/
def fnd (l : List Seen) (f c : Int) : Int := match l.findIdx? (fun s => s.frm == f && s.cat == c) with
  | none => -1
  | some i => i
theorem fnd_at {l : List Seen} {f c : Int} {k : Nat} (hk : k < l.length) (h : ∀ i (h : i < l.length), i < k → (l[i].frm == f && l[i].cat == c) = false) (h1 : l[k].frm = f) (h2 : l[k].cat = c) : fnd l f c = k := by
  have : l.findIdx? (fun s => s.frm == f && s.cat == c) = some k := by
    rw [List.findIdx?_eq_some_iff_getElem]
    exact ⟨hk, by simp [h1, h2], fun j hj => by simpa using h j (by omega) hj⟩
  simp [fnd, this]
theorem fnd_none {l : List Seen} {f c : Int} (h : ∀ i (h : i < l.length), i < l.length → (l[i].frm == f && l[i].cat == c) = false) : fnd l f c = -1 := by
  have : l.findIdx? (fun s => s.frm == f && s.cat == c) = none := by
    rw [List.findIdx?_eq_none_iff]
    intro x hx
    obtain ⟨i, hi, rfl⟩ := List.getElem_of_mem hx
    exact h i hi hi
  simp [fnd, this]
theorem fnd_next {l : List Seen} {f c : Int} {k : Nat} (hk : k < l.length) (h : ∀ i (h : i < l.length), i < k → (l[i].frm == f && l[i].cat == c) = false) (h1 : (l[k].frm == f && l[k].cat == c) = false) :
    ∀ i (h : i < l.length), i < k + 1 → (l[i].frm == f && l[i].cat == c) = false := by
  intro i hi hik
  by_cases h2 : i = k
  · subst h2; exact h1
  · exact h i hi (by omega)
theorem fnd_range (l : List Seen) (f c : Int) : fnd l f c = -1 ∨ ∃ i : Nat, ∃ h : i < l.length, fnd l f c = i ∧ l[i].frm = f ∧ l[i].cat = c := by
  unfold fnd
  cases h : l.findIdx? (fun s => s.frm == f && s.cat == c) with
  | none => exact .inl rfl
  | some i =>
    rw [List.findIdx?_eq_some_iff_getElem] at h
    obtain ⟨h1, h2, _⟩ := h
    simp at h2
    exact .inr ⟨i, h1, rfl, h2.1, h2.2⟩
theorem sFind (w : World) (A : Option Addr) (n c : Nat) (l : List Seen) (f ca : Int) (hn : l.length = n) (hM : Els w A 4 (kE kSeen) l) (hl : n ≤ 1048577) :
    Calls Try.prog 80 #[.slice A n c, .int .i64 f, .int .i64 ca] w fun e w' => e = .returned (.int .i64 (fnd l f ca)) ∧ Below w.heap.size w w' := by
  subst hn
  go_enter Try.func80, Try.ntmps80
  go_wp2
  go_loopw [7] (fun i wr => ∃ k : Nat, k ≤ l.length ∧ i = .int .i64 k ∧ Ext w wr ∧ Hid (∀ i (h : i < l.length), i < k → (l[i].frm == f && l[i].cat == ca) = false)) (fun i _ => l.length - (intOf i).toNat)
  case atStart => exact ⟨0, Nat.zero_le _, rfl, Ext.refl _, Lib.hid (fun i h h0 => absurd h0 (by omega))⟩
  case round =>
    obtain ⟨k, hk, rfl, hE, hI⟩ := hrel
    by_cases hlt : k < l.length
    · obtain ⟨b, off, rfl, hb, hc⟩ := (hM.ext hE (fun x cs h => kE.ext hE x cs h)).at_ (List.ne_nil_of_length_pos (by omega))
      obtain ⟨k0, k1, k2, k3⟩ := els_seen hc k hlt
      clear hc hM
      by_cases h1 : l[k].frm = f
      · by_cases h2 : l[k].cat = ca
        · have hF := Lib.hid (fnd_at hlt hI.out h1 h2)
          go_wp2
          go_ret
          exact ⟨(by rw [hF.out]; first | done | rfl), by first | exact hE | exact Ext.trans hE (Ext.alloc_ _ _)⟩
        · have hF := Lib.hid (fnd_next hlt hI.out (by simp [h2]))
          go_wp2
          go_roundw
          case rel => exact ⟨k + 1, by omega, by go_num, by first | exact hE | exact Ext.trans hE (Ext.alloc_ _ _), hF⟩
          case measure => simp [intOf]; omega
      · have hF := Lib.hid (fnd_next hlt hI.out (by simp [h1]))
        go_wp2
        go_roundw
        case rel => exact ⟨k + 1, by omega, by go_num, by first | exact hE | exact Ext.trans hE (Ext.alloc_ _ _), hF⟩
        case measure => simp [intOf]; omega
    · obtain rfl : k = l.length := by omega
      have hF := Lib.hid (fnd_none hI.out)
      clear hM
      go_wp2
      go_ret
      exact ⟨(by rw [hF.out]; first | done | rfl), hE⟩
theorem iFind (w : World) (A : Option Addr) (n c : Nat) (l : List Seen) (f ca : Int) (hn : l.length = n) (hM : Els w A 4 (kE kSeen) l) (hl : n ≤ 1048577) :
    Calls Try.prog 83 #[.slice A n c, .int .i64 f, .int .i64 ca] w fun e w' => e = .returned (.int .i64 (fnd l f ca)) ∧ Below w.heap.size w w' := by
  subst hn
  go_enter Try.func83, Try.ntmps83
  go_wp2
  go_loopw [11] (fun i wr => ∃ k : Nat, k ≤ l.length ∧ i = .int .i64 k ∧ Ext w wr ∧ Hid (∀ i (h : i < l.length), i < k → (l[i].frm == f && l[i].cat == ca) = false)) (fun i _ => l.length - (intOf i).toNat)
  case atStart => exact ⟨0, Nat.zero_le _, rfl, Ext.refl _, Lib.hid (fun i h h0 => absurd h0 (by omega))⟩
  case round =>
    obtain ⟨k, hk, rfl, hE, hI⟩ := hrel
    by_cases hlt : k < l.length
    · obtain ⟨b, off, rfl, hb, hc⟩ := (hM.ext hE (fun x cs h => kE.ext hE x cs h)).at_ (List.ne_nil_of_length_pos (by omega))
      obtain ⟨k0, k1, k2, k3⟩ := els_seen hc k hlt
      clear hc hM
      by_cases h1 : l[k].frm = f
      · by_cases h2 : l[k].cat = ca
        · have hF := Lib.hid (fnd_at hlt hI.out h1 h2)
          go_wp2
          go_ret
          exact ⟨(by rw [hF.out]; first | done | rfl), by first | exact hE | exact Ext.trans hE (Ext.alloc_ _ _)⟩
        · have hF := Lib.hid (fnd_next hlt hI.out (by simp [h2]))
          go_wp2
          go_roundw
          case rel => exact ⟨k + 1, by omega, by go_num, by first | exact hE | exact Ext.trans hE (Ext.alloc_ _ _), hF⟩
          case measure => simp [intOf]; omega
      · have hF := Lib.hid (fnd_next hlt hI.out (by simp [h1]))
        go_wp2
        go_roundw
        case rel => exact ⟨k + 1, by omega, by go_num, by first | exact hE | exact Ext.trans hE (Ext.alloc_ _ _), hF⟩
        case measure => simp [intOf]; omega
    · obtain rfl : k = l.length := by omega
      have hF := Lib.hid (fnd_none hI.out)
      clear hM
      go_wp2
      go_ret
      exact ⟨(by rw [hF.out]; first | done | rfl), hE⟩
end Go.Proofs.Ytcjppmihmfcagaa
