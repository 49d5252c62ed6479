/- The hash of a list of numbers and what is drawn from it: both texts compute 'hashL'. -/
import Derived.Test.YtkmklafjcjkpdaaMem
import Derived.LoopTactic
namespace Go.Proofs.Ytkmklafjcjkpdaa
open Go.RowKit
set_option linter.unusedVariables false
set_option linter.unusedSimpArgs false
def hstep (acc v : Int) : Int := (acc * 1000003 + modV v 2147483647 + 13) % 2147483647
def hashL (l : List Int) : Int := l.foldl hstep 11
theorem modV_M (v : Int) : 0 ≤ modV v 2147483647 ∧ modV v 2147483647 ≤ 2147483646 := by
  simp only [modV, inB]
  simp
  omega
theorem hstep_bd (a v : Int) : 0 ≤ hstep a v ∧ hstep a v ≤ 2147483646 := by unfold hstep; omega
theorem hashL_snoc (l : List Int) (v : Int) : hashL (l ++ [v]) = hstep (hashL l) v := by simp [hashL]
theorem hashL_bd (l : List Int) : 0 ≤ hashL l ∧ hashL l ≤ 2147483646 := by
  rcases List.eq_nil_or_concat l with rfl | ⟨l', v, rfl⟩
  · decide
  · rw [List.concat_eq_append, hashL_snoc]; exact hstep_bd _ _
theorem sHash (A : Option Addr) (n c : Nat) (zs : List Int) (w : World) (hn : zs.length = n) (hC : Cel w A (zs.map (Value.int .i64))) (hl : zs.length ≤ 1000000) :
    Calls Try.prog 165 #[.slice A n c] w fun e w' => e = .returned (.int .i64 (hashL zs)) ∧ w = w' := by
  subst hn
  go_enter Try.func165, Try.ntmps165
  go_wp2
  go_loop [3, 4] (fun d i => ∃ k : Nat, k ≤ zs.length ∧ i = .int .i64 k ∧ d = .int .i64 (hashL (zs.take k))) (fun _ i => zs.length - (intOf i).toNat)
  case atStart => exact ⟨0, Nat.zero_le _, rfl, rfl⟩
  case round =>
    obtain ⟨k, hk, rfl, rfl⟩ := hrel
    obtain ⟨d0, d1⟩ := hashL_bd (zs.take k)
    by_cases hlt : k < zs.length
    · obtain ⟨b, off, rfl, hb, hc⟩ := hC.map_at (List.ne_nil_of_length_pos (by omega))
      have hck := hc k hlt
      obtain ⟨m0, m1⟩ := modV_M zs[k]
      have H := Lib.hid (show hashL (zs.take (k + 1)) = (hashL (zs.take k) * 1000003 + modV zs[k] 2147483647 + 13) % 2147483647 by rw [take_snoc_get zs k hlt, hashL_snoc]; rfl)
      clear hc hC
      generalize hashL (zs.take k) = d at *
      go_wp2_with (go_at_call 166; refine (sMod _ _ _).mono ?_; rintro e w' ⟨rfl, rfl⟩)
      go_round
      case rel => exact ⟨k + 1, by omega, by go_num, by rw [H.out]⟩
      case measure => simp [intOf]; omega
    · rw [show zs.take k = zs from List.take_of_length_le (by omega)]
      go_wp2
      go_ret
      exact ⟨rfl, rfl⟩
theorem iHash (A : Option Addr) (n c : Nat) (zs : List Int) (w : World) (hn : zs.length = n) (hC : Cel w A (zs.map (Value.int .i64))) (hl : zs.length ≤ 1000000) :
    Calls Try.prog 158 #[.slice A n c] w fun e w' => e = .returned (.int .i64 (hashL zs)) ∧ w = w' := by
  subst hn
  go_enter Try.func158, Try.ntmps158
  go_wp2
  go_loop [3, 8] (fun d i => ∃ k : Nat, k ≤ zs.length ∧ i = .int .i64 k ∧ d = .int .i64 (hashL (zs.take k))) (fun _ i => zs.length - (intOf i).toNat)
  case atStart => exact ⟨0, Nat.zero_le _, rfl, rfl⟩
  case round =>
    obtain ⟨k, hk, rfl, rfl⟩ := hrel
    obtain ⟨d0, d1⟩ := hashL_bd (zs.take k)
    by_cases hlt : k < zs.length
    · obtain ⟨b, off, rfl, hb, hc⟩ := hC.map_at (List.ne_nil_of_length_pos (by omega))
      have hck := hc k hlt
      obtain ⟨m0, m1⟩ := modV_M zs[k]
      have H := Lib.hid (show hashL (zs.take (k + 1)) = (hashL (zs.take k) * 1000003 + modV zs[k] 2147483647 + 13) % 2147483647 by rw [take_snoc_get zs k hlt, hashL_snoc]; rfl)
      clear hc hC
      generalize hashL (zs.take k) = d at *
      go_wp2_with (go_at_call 96; refine (iMod _ _ _).mono ?_; rintro e w' ⟨rfl, rfl⟩)
      go_round
      case rel => exact ⟨k + 1, by omega, by go_num, by rw [H.out]⟩
      case measure => simp [intOf]; omega
    · rw [show zs.take k = zs from List.take_of_length_le (by omega)]
      go_wp2
      go_ret
      exact ⟨rfl, rfl⟩
theorem sKeyed (key : Int) (A : Option Addr) (n c : Nat) (zs : List Int) (w : World) (hn : zs.length = n) (hC : Cel w A (zs.map (Value.int .i64))) (hA : A = none → c = 0) (hl : n ≤ 100000) :
    Calls Try.prog 164 #[.int .i64 key, .slice A n c] w fun e w' => e = .returned (.int .i64 (hashL (key :: zs ++ [key]))) ∧ Below w.heap.size w w' := by
  have hC1 := hC.ext (Ext.alloc_ w (.cells #[.int .i64 key] 3))
  have hO := own_lit1 (base := w.heap.size) w 3 (.int .i64 key) (Nat.le_refl _)
  have hm : (zs.map (Value.int .i64)).length = n * 1 := by simpa using hn
  have e1 : [Value.int .i64 key] ++ zs.map (Value.int .i64) ++ [Value.int .i64 key] = (key :: zs ++ [key]).map (Value.int .i64) := by simp
  have e2 : (key :: zs ++ [key]).length = 1 + n + 1 := by simp; omega
  have E1 := Lib.hid e1
  have E2 := Lib.hid e2
  have Hm := Lib.hid hm
  clear e1 e2 hm hn
  go_enter Try.func164, Try.ntmps164
  go_wp2_with (at_builtin; refine wpApp (.tmp 6) (.tmp 7) elInt rfl rfl w.heap.size _ _ _ rfl hO _ _ _ _ rfl hC1 Hm.out hA (ints_oneCell _ _) (by unfold maxLen; omega) (by omega) (by first | omega | (simp; done) | (simp; omega)) ?_)
  intro v1 w1 hO1 hg1 _
  have hE1 : Ext w w1 := ext_grown (Ext.alloc_ _ _) hg1 hO (Nat.le_refl _)
  have hO2 := hO1.alloc (.cells #[.int .i64 key] 3)
  have hC2 := cel_lit w1 3 #[.int .i64 key]
  have hz1 := hE1.size
  clear hO hg1 hO1 hC hC1
  go_wp2_with (at_builtin; refine wpApp (.tmp 8) (.tmp 10) elInt rfl rfl w.heap.size _ _ _ rfl hO2 _ _ _ _ rfl hC2 (by simp) (by simp) (ints_oneCell .i64 [key]) (by unfold maxLen; omega) (by omega) (by first | omega | (simp; done) | (simp; omega)) ?_)
  intro v2 w2 hO3 hg2 _
  have hE2 : Ext w w2 := ext_grown (Ext.trans hE1 (Ext.alloc_ _ _)) hg2 hO2 (Nat.le_refl _)
  obtain ⟨A2, c2, rfl, -, -, hC3, -⟩ := own_form hO3
  have hC4 : Cel w2 A2 ((key :: zs ++ [key]).map (Value.int .i64)) := by rw [← E1.out]; exact hC3
  clear hO2 hC2 hO3 hg2 hC3
  go_wp2_with fail
  refine (sHash _ _ _ _ _ E2.out hC4 (by rw [E2.out]; omega)).mono ?_
  rintro e w3 ⟨rfl, rfl⟩
  go_wp2_with fail
  go_ret
  exact ⟨rfl, hE2⟩
theorem makeI (W : World) (n : Nat) (hl : n ≤ 100000) : (Instr.makeSlice 52 (.int .i64 0) (.int .i64 ((n : Int) + 2))).run Try.prog W = .ok (.slice (some ⟨W.heap.size, 0, none⟩) 0 (n + 2)) (W.alloc (.cells (madeCells #[.int .i64 0] (n + 2)) 3)) := by
  obtain ⟨i, z, hi, hz, hs, hb, _⟩ := elInt.info
  have hz' : z = .int .i64 0 := by
    have h : (Try.prog.info? 3).map (fun i => i.zero) = some (some (.int .i64 0)) := by kernel_rfl
    rw [hi] at h
    simp only [Option.map_some, Option.some.injEq] at h
    rw [hz] at h
    exact Option.some.inj h
  subst hz'
  have h := run_make (P := Try.prog) W 52 3 i _ elInt.und hi hz .i64 .i64 0 ((n : Int) + 2) (by omega) (by omega) (by rw [hb]; omega) (by omega)
  rw [h, hs, show ((n : Int) + 2).toNat = n + 2 by omega]
  simp [Value.cells]
theorem iKeyed (key : Int) (A : Option Addr) (n c : Nat) (zs : List Int) (w : World) (hn : zs.length = n) (hC : Cel w A (zs.map (Value.int .i64))) (hA : A = none → c = 0) (hl : n ≤ 100000) :
    Calls Try.prog 144 #[.int .i64 key, .slice A n c] w fun e w' => e = .returned (.int .i64 (hashL (key :: zs ++ [key]))) ∧ Below w.heap.size w w' := by
  have hmk : ∀ W : World, (Instr.makeSlice 52 (.int .i64 0) (.int .i64 ((n : Int) + 2))).run Try.prog W = .ok (.slice (some ⟨W.heap.size, 0, none⟩) 0 (n + 2)) (W.alloc (.cells (madeCells #[.int .i64 0] (n + 2)) 3)) := fun W => makeI W n hl
  have hm : (zs.map (Value.int .i64)).length = n * 1 := by simpa using hn
  have e1 : [Value.int .i64 key] ++ zs.map (Value.int .i64) ++ [Value.int .i64 key] = (key :: zs ++ [key]).map (Value.int .i64) := by simp
  have e2 : (key :: zs ++ [key]).length = 1 + n + 1 := by simp; omega
  have E1 := Lib.hid e1
  have E2 := Lib.hid e2
  have Hm := Lib.hid hm
  have hO0 : (w.alloc (.cells (madeCells #[.int .i64 0] (n + 2)) 3)).ownsRow w.heap.size 3 1 (.slice (some ⟨w.heap.size, 0, none⟩) 0 (n + 2)) 0 [] :=
    World.ownsRow_made w _ (n + 2) (Nat.le_refl _) (by unfold maxLen; omega) (by simp [size_madeCells])
  generalize madeCells #[.int .i64 0] (n + 2) = mc at *
  have hO := hO0.alloc (.cells #[.int .i64 key] 3)
  have hC1 := cel_lit (w.alloc (.cells mc 3)) 3 #[.int .i64 key]
  rw [World.size_alloc] at hC1
  clear e1 e2 hm hn hO0
  go_enter Try.func144, Try.ntmps144
  go_wp2_with (at_builtin; refine wpApp (.tmp 10) (.tmp 12) elInt rfl rfl w.heap.size _ _ _ rfl hO _ _ _ _ rfl hC1 (by simp) (by simp) (ints_oneCell .i64 [key]) (by unfold maxLen; omega) (by omega) (by first | omega | (simp; done) | (simp; omega)) ?_)
  intro v1 w1 hO1 hg1 _
  have hE1 : Ext w w1 := ext_grown (Ext.trans (Ext.alloc_ _ _) (Ext.alloc_ _ _)) hg1 hO (Nat.le_refl _)
  have hC2 := hC.ext hE1
  have hz1 := hE1.size
  try simp only [List.nil_append, Nat.zero_add] at hO1
  clear hO hg1 hC hC1 hmk
  go_wp2_with (at_builtin; refine wpApp (.tmp 14) (.tmp 15) elInt rfl rfl w.heap.size _ _ _ rfl hO1 _ _ _ _ rfl hC2 Hm.out hA (ints_oneCell _ _) (by unfold maxLen; omega) (by omega) (by first | omega | (simp; done) | (simp; omega)) ?_)
  intro v2 w2 hO2 hg2 _
  have hE2 : Ext w w2 := ext_grown hE1 hg2 hO1 (Nat.le_refl _)
  have hO3 := hO2.alloc (.cells #[.int .i64 key] 3)
  have hC3 := cel_lit w2 3 #[.int .i64 key]
  have hz2 := hE2.size
  clear hO1 hg2 hO2 hC2
  go_wp2_with (at_builtin; refine wpApp (.tmp 17) (.tmp 19) elInt rfl rfl w.heap.size _ _ _ rfl hO3 _ _ _ _ rfl hC3 (by simp) (by simp) (ints_oneCell .i64 [key]) (by unfold maxLen; omega) (by omega) (by first | omega | (simp; done) | (simp; omega)) ?_)
  intro v3 w3 hO4 hg3 _
  have hE3 : Ext w w3 := ext_grown (Ext.trans hE2 (Ext.alloc_ _ _)) hg3 hO3 (Nat.le_refl _)
  obtain ⟨A2, c2, rfl, -, -, hC4, -⟩ := own_form hO4
  have hC5 : Cel w3 A2 ((key :: zs ++ [key]).map (Value.int .i64)) := by rw [← E1.out]; exact hC4
  clear hO3 hC3 hO4 hg3 hC4
  go_wp2_with fail
  refine (iHash _ _ _ _ _ E2.out hC5 (by rw [E2.out]; omega)).mono ?_
  rintro e w4 ⟨rfl, rfl⟩
  go_wp2_with fail
  go_ret
  exact ⟨rfl, hE3⟩
end Go.Proofs.Ytkmklafjcjkpdaa
