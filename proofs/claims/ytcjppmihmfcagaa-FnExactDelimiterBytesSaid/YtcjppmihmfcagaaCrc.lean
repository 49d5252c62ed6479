/- The checksum, and the bytes of a delimiter. -/
import Derived.Test.YtcjppmihmfcagaaNb
import Derived.Laws.BitsLemmas
namespace Go.Proofs.Ytcjppmihmfcagaa
open Go.RowKit
set_option linter.unusedVariables false
set_option linter.unusedSimpArgs false

theorem xor16 {a b : Int} (ha : 0 ≤ a ∧ a ≤ 65535) (hb : 0 ≤ b ∧ b ≤ 65535) : 0 ≤ bits .xor .i64 a b ∧ bits .xor .i64 a b ≤ 65535 := by
  have e1 : (BitVec.ofInt 64 a).toNat = a.toNat := by rw [BitVec.toNat_ofInt]; omega
  have e2 : (BitVec.ofInt 64 b).toNat = b.toNat := by rw [BitVec.toNat_ofInt]; omega
  have h : (BitVec.ofInt 64 a ^^^ BitVec.ofInt 64 b).toNat < 2 ^ 16 := by
    rw [BitVec.toNat_xor, e1, e2]
    exact Nat.xor_lt_two_pow (by omega) (by omega)
  have he : bits .xor .i64 a b = IntKind.i64.wrap ((BitVec.ofInt 64 a ^^^ BitVec.ofInt 64 b).toNat : Nat) := rfl
  rw [he, IntKind.wrap_i64]
  omega
def crcR (x : Int) : Int := if bits .and .i64 x 1 = 1 then bits .xor .i64 (x / 2) 33800 else x / 2
theorem crcR_bd {x : Int} (h : 0 ≤ x ∧ x ≤ 65535) : 0 ≤ crcR x ∧ crcR x ≤ 65535 := by
  unfold crcR
  split
  · exact xor16 (by omega) (by omega)
  · omega
def crcI : Nat → Int → Int
  | 0, x => x
  | k + 1, x => crcR (crcI k x)
theorem crcI_bd {x : Int} (h : 0 ≤ x ∧ x ≤ 65535) : ∀ k, 0 ≤ crcI k x ∧ crcI k x ≤ 65535
  | 0 => h
  | k + 1 => crcR_bd (crcI_bd h k)
def crcL : List Int → Int → Int
  | [], x => x
  | b :: l, x => crcL l (crcI 8 (bits .xor .i64 x b))
theorem crcL_snoc (l : List Int) (b : Int) : ∀ x, crcL (l ++ [b]) x = crcI 8 (bits .xor .i64 (crcL l x) b) := by
  induction l with
  | nil => intro x; rfl
  | cons a l ih => intro x; exact ih _
theorem crcL_bd {l : List Int} (hl : ∀ b ∈ l, 0 ≤ b ∧ b ≤ 255) : ∀ {x : Int}, 0 ≤ x ∧ x ≤ 65535 → 0 ≤ crcL l x ∧ crcL l x ≤ 65535 := by
  induction l with
  | nil => intro x h; exact h
  | cons a l ih =>
    intro x h
    have ha := hl a (by simp)
    exact ih (fun b hb => hl b (by simp [hb])) (crcI_bd (xor16 h (by omega)) 8)
def crcV (l : List Int) : Int := bits .xor .i64 (crcL l 65535) 65535
theorem crcV_bd {l : List Int} (hl : ∀ b ∈ l, 0 ≤ b ∧ b ≤ 255) : 0 ≤ crcV l ∧ crcV l ≤ 65535 := xor16 (crcL_bd hl (by omega)) (by omega)
theorem sCrc (w : World) (A : Option Addr) (n c : Nat) (l : List Int) (hn : l.length = n) (hr : RB w A c l) (hb : ∀ b ∈ l, 0 ≤ b ∧ b ≤ 255) (hl : n ≤ 1000) :
    Calls Try.prog 64 #[.slice A n c] w fun e w' => e = .returned (.int .i64 (crcV l)) ∧ w = w' := by
  subst hn
  have hC := Lib.hid hr.1
  have hb' := Lib.hid hb
  clear hr hb
  go_enter Try.func64, Try.ntmps64
  go_wp2
  go_loop [3, 4] (fun x i => ∃ k : Nat, k ≤ l.length ∧ i = .int .i64 k ∧ x = .int .i64 (crcL (l.take k) 65535)) (fun _ i => l.length - (intOf i).toNat)
  case atStart => exact ⟨0, Nat.zero_le _, rfl, rfl⟩
  case round =>
    obtain ⟨k, hk, rfl, rfl⟩ := hrel
    obtain ⟨d0, d1⟩ := crcL_bd (l := l.take k) (fun b hb => hb'.out b (List.mem_of_mem_take hb)) (x := 65535) (by omega)
    by_cases hlt : k < l.length
    · obtain ⟨b, off, rfl, hb, hc⟩ := hC.out.map_at (List.ne_nil_of_length_pos (by omega))
      have hck := hc k hlt
      obtain ⟨m0, m1⟩ := hb'.out _ (List.getElem_mem hlt)
      have H := Lib.hid (show crcL (l.take (k + 1)) 65535 = crcI 8 (bits .xor .i64 (crcL (l.take k) 65535) l[k]) by rw [take_snoc_get l k hlt, crcL_snoc])
      have hx := xor16 (a := crcL (l.take k) 65535) (b := l[k]) ⟨d0, d1⟩ (by omega)
      clear hc
      generalize crcL (l.take k) 65535 = d at *
      generalize l[k] = z at *
      go_wp2
      generalize hd : bits .xor .i64 d z = d' at *
      go_loop [3, 5] (fun x i => ∃ m : Nat, m ≤ 8 ∧ i = .int .i64 m ∧ x = .int .i64 (crcI m d')) (fun _ i => 8 - (intOf i).toNat)
      case atStart => exact ⟨0, Nat.zero_le _, rfl, rfl⟩
      case round =>
        obtain ⟨m, hm, rfl, rfl⟩ := hrel
        obtain ⟨f0, f1⟩ := crcI_bd hx m
        have HR := Lib.hid (show crcI (m + 1) d' = crcR (crcI m d') from rfl)
        by_cases hlt2 : m < 8
        · by_cases h1 : bits .and .i64 (crcI m d') 1 = 1
          · have HV := Lib.hid (show crcI (m + 1) d' = bits .xor .i64 (crcI m d' / 2) 33800 by rw [HR.out]; unfold crcR; rw [if_pos h1])
            generalize crcI m d' = y at *
            go_wp2
            go_round
            case rel => exact ⟨m + 1, by omega, by go_num, by rw [HV.out]⟩
            case measure => simp [intOf]; omega
          · have HV := Lib.hid (show crcI (m + 1) d' = crcI m d' / 2 by rw [HR.out]; unfold crcR; rw [if_neg h1])
            generalize crcI m d' = y at *
            go_wp2
            go_round
            case rel => exact ⟨m + 1, by omega, by go_num, by rw [HV.out]⟩
            case measure => simp [intOf]; omega
        · obtain rfl : m = 8 := by omega
          go_wp2
          go_round
          case rel => exact ⟨k + 1, by omega, by go_num, by rw [H.out]⟩
          case measure => simp [intOf]; omega
    · rw [show l.take k = l from List.take_of_length_le (by omega)]
      go_wp2
      go_ret
      exact ⟨rfl, rfl⟩
theorem iCrc (w : World) (A : Option Addr) (n c : Nat) (l : List Int) (hn : l.length = n) (hr : RB w A c l) (hb : ∀ b ∈ l, 0 ≤ b ∧ b ≤ 255) (hl : n ≤ 1000) :
    Calls Try.prog 66 #[.slice A n c] w fun e w' => e = .returned (.int .i64 (crcV l)) ∧ w = w' := by
  subst hn
  have hC := Lib.hid hr.1
  have hb' := Lib.hid hb
  clear hr hb
  go_enter Try.func66, Try.ntmps66
  go_wp2
  go_loop [3, 10] (fun x i => ∃ k : Nat, k ≤ l.length ∧ i = .int .i64 k ∧ x = .int .i64 (crcL (l.take k) 65535)) (fun _ i => l.length - (intOf i).toNat)
  case atStart => exact ⟨0, Nat.zero_le _, rfl, rfl⟩
  case round =>
    obtain ⟨k, hk, rfl, rfl⟩ := hrel
    obtain ⟨d0, d1⟩ := crcL_bd (l := l.take k) (fun b hb => hb'.out b (List.mem_of_mem_take hb)) (x := 65535) (by omega)
    by_cases hlt : k < l.length
    · obtain ⟨b, off, rfl, hb, hc⟩ := hC.out.map_at (List.ne_nil_of_length_pos (by omega))
      have hck := hc k hlt
      obtain ⟨m0, m1⟩ := hb'.out _ (List.getElem_mem hlt)
      have H := Lib.hid (show crcL (l.take (k + 1)) 65535 = crcI 8 (bits .xor .i64 (crcL (l.take k) 65535) l[k]) by rw [take_snoc_get l k hlt, crcL_snoc])
      have hx := xor16 (a := crcL (l.take k) 65535) (b := l[k]) ⟨d0, d1⟩ (by omega)
      clear hc
      generalize crcL (l.take k) 65535 = d at *
      generalize l[k] = z at *
      go_wp2
      generalize hd : bits .xor .i64 d z = d' at *
      go_loop [3, 6] (fun x i => ∃ m : Nat, m ≤ 8 ∧ i = .int .i64 m ∧ x = .int .i64 (crcI m d')) (fun _ i => 8 - (intOf i).toNat)
      case atStart => exact ⟨0, Nat.zero_le _, rfl, rfl⟩
      case round =>
        obtain ⟨m, hm, rfl, rfl⟩ := hrel
        obtain ⟨f0, f1⟩ := crcI_bd hx m
        have HR := Lib.hid (show crcI (m + 1) d' = crcR (crcI m d') from rfl)
        by_cases hlt2 : m < 8
        · by_cases h1 : bits .and .i64 (crcI m d') 1 = 1
          · have HV := Lib.hid (show crcI (m + 1) d' = bits .xor .i64 (crcI m d' / 2) 33800 by rw [HR.out]; unfold crcR; rw [if_pos h1])
            generalize crcI m d' = y at *
            go_wp2
            go_round
            case rel => exact ⟨m + 1, by omega, by go_num, by rw [HV.out]⟩
            case measure => simp [intOf]; omega
          · have HV := Lib.hid (show crcI (m + 1) d' = crcI m d' / 2 by rw [HR.out]; unfold crcR; rw [if_neg h1])
            generalize crcI m d' = y at *
            go_wp2
            go_round
            case rel => exact ⟨m + 1, by omega, by go_num, by rw [HV.out]⟩
            case measure => simp [intOf]; omega
        · obtain rfl : m = 8 := by omega
          go_wp2
          go_round
          case rel => exact ⟨k + 1, by omega, by go_num, by rw [H.out]⟩
          case measure => simp [intOf]; omega
    · rw [show l.take k = l from List.take_of_length_le (by omega)]
      go_wp2
      go_ret
      exact ⟨rfl, rfl⟩
def delB (a : Int) : List Int := if 0 ≤ a ∧ a ≤ 200 then [a, 0, crcV [a, 0] % 256, 78] else []
theorem sDel (w : World) (a : Int) : Calls Try.prog 12 #[.int .i64 a] w fun e w' => ∃ g A c, e = .returned (.slice A (delB a).length c) ∧ Ext w w' ∧ NewB w' w.heap.size g A c (delB a) := by
  by_cases ha : 0 ≤ a ∧ a ≤ 200
  · have hR := Lib.hid (show delB a = [a, 0, crcV [a, 0] % 256, 78] by unfold delB; rw [if_pos ha])
    have hi := Lib.hid (show inB a 0 200 = true by simp [inB, ha.1, ha.2])
    obtain ⟨a0, a1⟩ := ha
    have hm : a % 256 = a := by omega
    have hdv : a / 256 = 0 := by omega
    have hbd := Lib.hid (show ∀ b ∈ [a, (0 : Int)], 0 ≤ b ∧ b ≤ 255 by intro b hb; simp at hb; omega)
    have hcv := Lib.hid (crcV_bd hbd.out)
    have hL := Lib.hid (cel_lit w 5 #[.int .u8 a, .int .u8 0])
    have hO := Lib.hid (World.ownsRow_lit (size := 1) (base := w.heap.size) w (e := 5) #[.int .u8 a, .int .u8 0] 2 (Nat.le_refl _) (by unfold maxLen; omega) (by simp))
    go_enter Try.func12, Try.ntmps12
    go_wp2_with fail
    refine (sIn _ _ _ _).mono ?_
    rintro e w' ⟨rfl, rfl⟩
    rw [hi.out]
    go_wp2_with fail
    refine (sCrc _ _ _ _ [a, 0] rfl ⟨by simpa using hL.out, fun h => (by cases h), by simp⟩ hbd.out (by simp)).mono ?_
    rintro e w1 ⟨rfl, rfl⟩
    obtain ⟨c0, c1⟩ := hcv.out
    obtain ⟨cv, hcvq⟩ : ∃ cv, cv = crcV [a, 0] := ⟨_, rfl⟩
    rw [← hcvq] at c0 c1 hR ⊢
    clear hcvq hcv
    have hL2 := Lib.hid (cel_lit (w.alloc (.cells #[.int .u8 a, .int .u8 0] 5)) 5 #[.int .u8 (cv % 256), .int .u8 78])
    rw [World.size_alloc] at hL2
    have hO2 := Lib.hid (hO.out.alloc (.cells #[.int .u8 (cv % 256), .int .u8 78] 5))
    have hone := Lib.hid (show ∀ u ∈ [Value.int .u8 (cv % 256), .int .u8 78], u.oneCell' = true by intro u hu; simp at hu; rcases hu with rfl | rfl <;> rfl)
    go_wp2_with (at_builtin; refine wpApp (.tmp 14) (.tmp 18) elByte rfl rfl w.heap.size _ _ _ rfl hO2.out _ _ _ _ rfl (by simpa using hL2.out) (by simp) (by simp) hone.out (by unfold maxLen; omega) (by omega) (by simp <;> omega) ?_)
    intro v1 w1 hO1 hg1 _
    have hE1 := Lib.hid (ext_grown (w0 := w) (Ext.trans (Ext.alloc_ _ _) (Ext.alloc_ _ _)) hg1 hO2.out (Nat.le_refl _))
    obtain ⟨g, A', c', rfl, hN⟩ := NewB.of_own (l := [a, 0, cv % 256, 78]) (by simpa using hO1) hE1.out.size
    have N1 := Lib.hid hN
    clear hO1 hg1 hN
    go_wp2
    go_ret
    exact ⟨g, A', c', by rw [hR.out]; first | done | rfl, hE1.out, by rw [hR.out]; exact N1.out⟩
  · have hR := Lib.hid (show delB a = [] by unfold delB; rw [if_neg ha])
    have hi := Lib.hid (show inB a 0 200 = false by simp [inB]; omega)
    clear ha
    go_enter Try.func12, Try.ntmps12
    go_wp2_with fail
    refine (sIn _ _ _ _).mono ?_
    rintro e w' ⟨rfl, rfl⟩
    rw [hi.out]
    go_wp2
    go_ret
    exact ⟨w.heap.size, _, _, by rw [hR.out]; first | done | rfl, Ext.alloc_ _ _, by rw [hR.out]; exact ⟨fun h => (by cases h), Nat.le_refl _, Nat.le_refl _, .inl rfl⟩⟩
theorem iDel (w : World) (a : Int) : Calls Try.prog 13 #[.int .i64 a] w fun e w' => ∃ g A c, e = .returned (.slice A (delB a).length c) ∧ Ext w w' ∧ NewB w' w.heap.size g A c (delB a) := by
  by_cases ha : 0 ≤ a ∧ a ≤ 200
  · have hR := Lib.hid (show delB a = [a, 0, crcV [a, 0] % 256, 78] by unfold delB; rw [if_pos ha])
    have hi := Lib.hid (show inB a 0 200 = true by simp [inB, ha.1, ha.2])
    obtain ⟨a0, a1⟩ := ha
    have hm : a % 256 = a := by omega
    have hdv : a / 256 = 0 := by omega
    have hbd := Lib.hid (show ∀ b ∈ [a, (0 : Int)], 0 ≤ b ∧ b ≤ 255 by intro b hb; simp at hb; omega)
    have hcv := Lib.hid (crcV_bd hbd.out)
    have hL := Lib.hid (cel_lit w 5 #[.int .u8 a, .int .u8 0])
    go_enter Try.func13, Try.ntmps13
    go_wp2_with fail
    refine (iIn _ _ _ _).mono ?_
    rintro e w' ⟨rfl, rfl⟩
    rw [hi.out]
    go_wp2_with fail
    refine (iCrc _ _ _ _ [a, 0] rfl ⟨by simpa using hL.out, fun h => (by cases h), by simp⟩ hbd.out (by simp)).mono ?_
    rintro e w1 ⟨rfl, rfl⟩
    obtain ⟨c0, c1⟩ := hcv.out
    obtain ⟨cv, hcvq⟩ : ∃ cv, cv = crcV [a, 0] := ⟨_, rfl⟩
    rw [← hcvq] at c0 c1 hR ⊢
    clear hcvq hcv
    have hmm : cv % 256 % 256 = cv % 256 := by omega
    go_wp2
    go_ret
    refine ⟨w.heap.size + 1, _, _, by rw [hR.out]; first | done | rfl, Ext.trans (Ext.alloc_ _ _) (Ext.alloc_ _ _), ?_⟩
    rw [hR.out]
    have h := new_blk2 w (.cells #[.int .u8 a, .int .u8 0] 5) #[.int .u8 a, .int .u8 0, .int .u8 (cv % 256), .int .u8 78] 5
    exact ⟨fun h => (by cases h), by simp, by omega, .inr ⟨rfl, by simp, _, _, h, fun j u hj => by
      match j, hj with
      | 0, hj => simp at hj; subst hj; rfl
      | 1, hj => simp at hj; subst hj; rfl
      | 2, hj => simp at hj; subst hj; rfl
      | 3, hj => simp at hj; subst hj; rfl
      | j + 4, hj => simp at hj⟩⟩
  · have hR := Lib.hid (show delB a = [] by unfold delB; rw [if_neg ha])
    have hi := Lib.hid (show inB a 0 200 = false by simp [inB]; omega)
    clear ha
    go_enter Try.func13, Try.ntmps13
    go_wp2_with fail
    refine (iIn _ _ _ _).mono ?_
    rintro e w' ⟨rfl, rfl⟩
    rw [hi.out]
    go_wp2
    go_ret
    exact ⟨w.heap.size, _, _, by rw [hR.out]; first | done | rfl, Ext.alloc_ _ _, by rw [hR.out]; exact ⟨fun h => (by cases h), Nat.le_refl _, Nat.le_refl _, .inl rfl⟩⟩
theorem delB_len (a : Int) : (delB a).length ≤ 4 := by unfold delB; split <;> simp
theorem walk_FnExactDelimiterBytes (a0 : Int) (w : World) (w0 : (Lit.int .i64 a0).wf = true) :
    Calls Try.prog 3 #[.int .i64 a0] w fun e w' => e = .returned (.bool true) ∧ Below w.heap.size w w' := by
  obtain ⟨L, hL⟩ : ∃ L, L = delB a0 := ⟨_, rfl⟩
  have hL' := Lib.hid hL
  obtain ⟨n, hn⟩ : ∃ n, L.length = n := ⟨_, rfl⟩
  have N1 := Lib.hid hn
  have hn4 := Lib.hid (show n ≤ 4 by rw [← hn, hL]; exact delB_len a0)
  have hnl : ¬ (1 + (n : Int) < 0) := by omega
  clear hL hn w0
  go_enter Try.func3, Try.ntmps3
  go_wp2_with fail
  refine (sDel _ _).mono ?_
  rintro e w1 ⟨g1, A1, c1, rfl, h1, hN1⟩
  rw [← hL'.out, N1.out]
  rw [← hL'.out] at hN1
  have E1 := Lib.hid h1
  have P1 := Lib.hid hN1
  have L1 := Lib.hid hN1.lt
  clear h1 hN1
  go_wp2_with fail
  refine (iDel _ _).mono ?_
  rintro e w2 ⟨g2, A2, c2, rfl, h2, hN2⟩
  rw [← hL'.out, N1.out]
  rw [← hL'.out] at hN2
  have E2 := Lib.hid (Ext.trans E1.out h2)
  have Q1 := Lib.hid (P1.out.ext h2)
  have P2 := Lib.hid hN2
  clear h2 hN2 P1
  go_wp2_with fail
  refine (eqByteS_ _ _ _ _ _ L _ N1.out P2.out.rb.1 Q1.out.rb.1 (by have := hn4.out; omega)).mono ?_
  rintro e w3 ⟨rfl, h3⟩
  have E3 := Lib.hid h3
  clear h3
  go_wp2_with fail
  refine (markByteS_ _ _ _ _ g2 _ (by omega) (by have := hn4.out; omega) (by have := (P2.out.ext E3.out).mk; rwa [N1.out] at this)).mono ?_
  rintro e w4 ⟨rfl, h4, -, h40, h4n⟩
  have C4 := Lib.hid ((Chg.of_ext (fun b => n ≠ 0 ∧ b = g2) E3.out).trans (chg_body h4 h40 (fun h => ⟨h, rfl⟩)))
  have hQ := P2.out.marked (w' := w4) (k := 1) (by rw [N1.out]; exact h4n)
  rw [N1.out] at hQ
  have P4 := Lib.hid hQ
  have Q4 := Lib.hid (Q1.out.chg C4.out (fun h1 h2 => by have := L1.out h1; have := P2.out.2.2.1; omega))
  have E4 := Lib.hid (C4.out.ext E2.out (fun x hx => by have := P2.out.2.2.1; have := E1.out.size; omega))
  clear h4 h40 h4n hQ C4 E3 P2 Q1
  go_wp2_with fail
  refine (heldByteS_ _ _ _ _ _ (by omega) (by have := hn4.out; omega) P4.out.rb).mono ?_
  rintro e w5 ⟨rfl, h5⟩
  have Q5 := Lib.hid h5
  clear h5
  go_wp2_with fail
  refine (iDel _ _).mono ?_
  rintro e w6 ⟨g6, A6, c6, rfl, h6, hN6⟩
  rw [← hL'.out, N1.out]
  rw [← hL'.out] at hN6
  have Q6 := Lib.hid (Ext.trans Q5.out h6)
  have P6 := Lib.hid hN6
  clear h6 hN6 Q5
  go_wp2_with fail
  refine (eqByteS_ _ _ _ _ _ L _ N1.out P6.out.rb.1 (Q4.out.ext Q6.out).rb.1 (by have := hn4.out; omega)).mono ?_
  rintro e w7 ⟨rfl, h7⟩
  have Q7 := Lib.hid (Ext.trans Q6.out h7)
  clear h7
  go_wp2_with fail
  refine (heldByteS_ _ _ _ _ _ (by omega) (by have := hn4.out; omega) (P4.out.ext Q7.out).rb).mono ?_
  rintro e w8 ⟨rfl, h8⟩
  have Q8 := Lib.hid (Ext.trans Q7.out h8)
  clear h8
  go_wp2_with fail
  go_ret
  exact ⟨rfl, Ext.trans E4.out Q8.out⟩
end Go.Proofs.Ytcjppmihmfcagaa
