/- Byte strings compared. -/
import Derived.Test.YtkmklafjcjkpdaaTq
import Derived.Laws.BytesArg
namespace Go.Proofs.Ytkmklafjcjkpdaa
open Go.RowKit
set_option linter.unusedVariables false
set_option linter.unusedSimpArgs false

theorem conv_rb {P : Program} {w : World} {A : Option Addr} {n c : Nat} {l : List Int} {src e dst : TypeId} (hs : P.underlying src = some (.slice e)) (he : P.underlying e = some (.int .u8)) (hd : P.underlying dst = some .string)
    (hn : l.length = n) (h : RB w A c l) : (convert src dst (.slice A n c)).run P w = .ok (.string (strOfNums l)) w := by
  subst hn
  rcases A with _ | ⟨b, off, spot⟩
  · have h0 : l = [] := by
      rcases h.1 with h1 | ⟨b, off, h1, _⟩
      · simpa using h1
      · cases h1
    subst h0
    exact run_convert_bytes_nil w src e hs he _ _ dst hd
  · rcases h.1 with h1 | ⟨b', off', h1, _, h3⟩
    · have h0 : l = [] := by simpa using h1
      subst h0
      have := run_convert_bytes_back (P := P) w src dst e ⟨b, off, spot⟩ c [] hs he hd (fun j hj => absurd hj (by simp))
      exact this
    · injection h1 with h1
      injection h1 with e1 e2 e3
      subst e1 e2 e3
      refine run_convert_bytes_arg w src e hs he b off _ c l rfl (fun i hi => ?_) dst hd
      exact h3 i _ (by simp [hi])
theorem strOfNums_inj {l l' : List Int} (h : ∀ z ∈ l, 0 ≤ z ∧ z ≤ 255) (h' : ∀ z ∈ l', 0 ≤ z ∧ z ≤ 255) (he : strOfNums l = strOfNums l') : l = l' := by
  have h1 : (strOfNums l).data.toList = (strOfNums l').data.toList := by rw [he]
  rw [strOfNums_data, strOfNums_data] at h1
  have hlen : l.length = l'.length := by simpa using congrArg List.length h1
  refine List.ext_getElem hlen fun i g1 g2 => ?_
  have h2 : (l.map fun n => UInt8.ofNat n.toNat)[i]? = (l'.map fun n => UInt8.ofNat n.toNat)[i]? := by rw [h1]
  simp [g1, g2] at h2
  have a1 := h _ (List.getElem_mem g1)
  have a2 := h' _ (List.getElem_mem g2)
  have h3 := congrArg UInt8.toNat h2
  simp only [UInt8.toNat_ofNat'] at h3
  rw [Nat.mod_eq_of_lt (by omega), Nat.mod_eq_of_lt (by omega)] at h3
  omega
theorem iEqB (A A' : Option Addr) (n n' c c' : Nat) (l l' : List Int) (hn : l.length = n) (hn' : l'.length = n') (w : World) (h : RB w A c l) (h' : RB w A' c' l') (hl : n ≤ 9223372036854775807) (hl' : n' ≤ 9223372036854775807) :
    Calls Try.prog 141 #[.slice A n c, .slice A' n' c'] w fun e w' => e = .returned (.bool (decide (l = l'))) ∧ Below w.heap.size w w' := by
  subst hn hn'
  by_cases hlen : l.length = l'.length
  · have hlen' := Lib.hid hlen
    rw [← hlen]
    rw [← hlen] at hl'
    clear hlen hl'
    go_enter Try.func141, Try.ntmps141
    go_wp2
    go_loopw [13] (fun i wr => ∃ k : Nat, k ≤ l.length ∧ i = .int .i64 k ∧ Ext w wr ∧ Hid (l.take k = l'.take k)) (fun i _ => l.length - (intOf i).toNat)
    case atStart => exact ⟨0, Nat.zero_le _, rfl, Ext.refl _, Lib.hid rfl⟩
    case round =>
      obtain ⟨k, hk, rfl, hE, hI⟩ := hrel
      by_cases hlt : k < l.length
      · have hlt' : k < l'.length := by rw [← hlen'.out]; exact hlt
        obtain ⟨b, off, rfl, hb, hc⟩ := (h.1.ext hE).map_at (List.ne_nil_of_length_pos (by omega))
        obtain ⟨b', off', rfl, hb', hc'⟩ := (h'.1.ext hE).map_at (List.ne_nil_of_length_pos (by omega))
        have k1 := hc k hlt
        have k2 := hc' k hlt'
        have p0 : (0 : Int) ≤ (k : Int) := by omega
        have p1 : (k : Int) < (l.length : Int) := by omega
        by_cases heq : l[k] = l'[k]
        · have hF := Lib.hid (show l.take (k + 1) = l'.take (k + 1) by rw [take_snoc_get l k hlt, take_snoc_get l' k hlt', hI.out, heq])
          clear hc hc' h h'
          go_wp2_with fail
          go_quiet (fail)
          go_wp2
          go_roundw
          case rel => exact ⟨k + 1, by omega, by go_num, Ext.drewN_ hE _, hF⟩
          case measure => simp [intOf]; omega
        · have hF := Lib.hid (show decide (l = l') = false by
            apply decide_eq_false
            intro he
            subst he
            exact heq rfl)
          clear hc hc' h h'
          go_wp2_with fail
          go_quiet (fail)
          go_wp2
          go_ret
          exact ⟨(by rw [hF.out]; first | done | rfl), Ext.drewN_ hE _⟩
      · obtain rfl : k = l.length := by omega
        have hF := Lib.hid (show decide (l = l') = true by
          apply decide_eq_true
          have := hI.out
          rwa [List.take_length, hlen'.out, List.take_length] at this)
        clear h h'
        go_wp2
        go_ret
        exact ⟨(by rw [hF.out]; first | done | rfl), hE⟩
  · have hlen2 : ¬ (l.length : Int) = (l'.length : Int) := by omega
    have hF := Lib.hid (show decide (l = l') = false from decide_eq_false (fun he => hlen (by rw [he])))
    clear h h'
    go_enter Try.func141, Try.ntmps141
    go_wp2
    go_ret
    exact ⟨(by rw [hF.out]; first | done | rfl), Ext.refl _⟩
end Go.Proofs.Ytkmklafjcjkpdaa
