/- The laws on sequence numbers. -/
import Derived.Test.YtkmklafjcjkpdaaDrw
import Derived.Test.YtkmklafjcjkpdaaG1
import Derived.Test.YtkmklafjcjkpdaaTq
namespace Go.Proofs.Ytkmklafjcjkpdaa
open Go.RowKit
set_option linter.unusedVariables false
set_option linter.unusedSimpArgs false
theorem view_code {w : World} {A : Option Addr} {n c : Nat} (h : Rd Try.prog w 22 [.slice A n c]) : ∃ l : List Int, l.length = n ∧ RB w A c l ∧ (∀ x ∈ l, 0 ≤ x ∧ x ≤ 255) ∧ n ≤ maxLen := by
  obtain ⟨zs, g1, g2, g6, g3, g4, g5⟩ := view_nums Try.underlying22 Try.underlying5 cells_byte h
  subst g1
  exact ⟨zs, rfl, ⟨g2, g3, g4⟩, fun z hz => u8_range (g6 z hz), by omega⟩
theorem Drawn.out_ {w w' w'' : World} {b : Nat} (h : Ext w w') (hb : w.heap.size ≤ b) (hD : Drawn w' w'' b) : Ext w w'' :=
  hD.1.ext h (fun x hx => by omega)
theorem big_ (w : World) (A : Option Addr) (n c : Nat) (hn : n ≤ maxLen) : Calls Try.prog 13 #[.slice A n c] w fun e w' => e = .returned (.bool (decide ((1048576 : Int) < n))) ∧ w = w' := by
  unfold maxLen at hn
  go_enter Try.func13, Try.ntmps13
  go_wp2_with fail
  go_ret
  exact ⟨rfl, rfl⟩
theorem sSeq (w : World) (b : Nat) (hC : Cur w b) :
    Calls Try.prog 95 #[.pointer (some ⟨b, 0, none⟩)] w fun e w' => ∃ x : Int, e = .returned (.int .i64 x) ∧ (-1 ≤ x ∧ x ≤ 4096) ∧ Drawn w w' b := by
  have hC' := Lib.hid hC
  have hlt := hC.lt
  clear hC
  have hL := Lib.hid (cel_lit w 3 #[.int .i64 (-1), .int .i64 0, .int .i64 1, .int .i64 5, .int .i64 2047, .int .i64 2048, .int .i64 4094, .int .i64 4095, .int .i64 4096])
  go_enter Try.func95, Try.ntmps95
  go_wp2_with fail
  refine (sOneOf _ _ _ _ _ [-1, 0, 1, 5, 2047, 2048, 4094, 4095, 4096] (hC'.out.ext (Ext.alloc_ _ _)) rfl (by decide) hL.out (fun b' o h => by injection h with h; injection h with h; omega)).mono ?_
  rintro e w1 ⟨x, rfl, hx, hD⟩
  have D1 := Lib.hid (Drawn.trans (Drawn.of_ext hC'.out (Ext.alloc_ w _)) hD)
  have hxx : -1 ≤ x ∧ x ≤ 4096 := by simp at hx; omega
  clear hD hx
  go_wp2_with fail
  go_ret
  exact ⟨_, rfl, hxx, D1.out⟩
theorem sDrawSeq (w : World) (A : Option Addr) (n c : Nat) (l : List Int) (hn : l.length = n) (hr : RB w A c l) (hb : ∀ x ∈ l, 0 ≤ x ∧ x ≤ 255) (hl : n ≤ 1048576) :
    Calls Try.prog 20 #[.slice A n c] w fun e w' => ∃ x y : Int, e = .returned (.tuple #[.int .i64 x, .int .i64 y]) ∧ (-1 ≤ x ∧ x ≤ 4096) ∧ (-1 ≤ y ∧ y ≤ 4096) ∧ Ext w w' := by
  go_enter Try.func20, Try.ntmps20
  go_wp2_with fail
  refine (sNew _ _ _ _ l hn hr hb hl).mono ?_
  rintro e w1 ⟨b, rfl, h1, h2, h3⟩
  have E1 := Lib.hid h1
  have C1 := Lib.hid h3
  have Z1 := Lib.hid h2
  clear h1 h2 h3 hn hr hb
  go_wp2_with fail
  refine (sSeq _ _ C1.out).mono ?_
  rintro e w2 ⟨x, rfl, hx, hD⟩
  have D2 := Lib.hid hD
  clear hD
  go_wp2_with fail
  refine (sSeq _ _ D2.out.2).mono ?_
  rintro e w3 ⟨y, rfl, hy, hD⟩
  have D3 := Lib.hid (D2.out.trans hD)
  clear hD D2
  go_wp2_with fail
  exact bodyPost_ret (v := .tuple #[.int .i64 x, .int .i64 y]) (by simp [results, Try.results20, go_sem]) rfl ⟨x, y, rfl, hx, hy, Drawn.out_ E1.out Z1.out D3.out⟩
set_option maxHeartbeats 4000000 in
theorem walk_FnSequenceNumbers (a0 : Option Addr) (n0 c0 : Nat) (w : World) (r0 : Rd Try.prog w 22 [.slice a0 n0 c0]) :
    Calls Try.prog 4 #[.slice a0 n0 c0] w fun e w' => e = .returned (.bool true) ∧ Below w.heap.size w w' := by
  obtain ⟨l, hn, hr, hb, hm⟩ := view_code r0
  clear r0
  by_cases hbig : (1048576 : Int) < n0
  · go_enter Try.func4, Try.ntmps4
    go_wp2_with fail
    refine (big_ _ _ _ _ hm).mono ?_
    rintro e w' ⟨rfl, rfl⟩
    rw [decide_eq_true hbig]
    go_wp2_with fail
    go_ret
    exact ⟨rfl, Below.refl _ _⟩
  · go_enter Try.func4, Try.ntmps4
    go_wp2_with fail
    refine (big_ _ _ _ _ hm).mono ?_
    rintro e w' ⟨rfl, rfl⟩
    rw [decide_eq_false (by omega)]
    go_wp2_with fail
    refine (sDrawSeq _ _ _ _ l hn hr hb (by omega)).mono ?_
    rintro e w1 ⟨x, y, rfl, hx, hy, hE⟩
    have E1 := Lib.hid hE
    clear hn hr hb hm hbig hE
    go_wp2_with fail
    refine (iDist _ _ _).mono ?_
    rintro e w' ⟨rfl, rfl⟩
    by_cases hin : (0 ≤ x ∧ x ≤ 4095) ∧ (0 ≤ y ∧ y ≤ 4095)
    · obtain ⟨⟨hx0, hx1⟩, hy0, hy1⟩ := hin
      have hd1 := Lib.hid (distV_bd (inB_mk hx0 hx1) (inB_mk hy0 hy1))
      have hd2 := Lib.hid (distV_bd (inB_mk hy0 hy1) (inB_mk hx0 hx1))
      have hq : seqV x = (x + 1) % 4096 := by unfold seqV; rw [if_pos (inB_mk hx0 hx1)]
      have hn3 : newerV (seqV x) x = true := by
        rw [hq]
        unfold newerV
        rw [distV_bd (inB_mk hx0 hx1) (inB_mk (by omega) (by omega))]
        exact inB_mk (by omega) (by omega)
      clear hq
      have hloop := Lib.hid (fun k : Nat => show seqV ((x + k) % 4096) = (x + (k + 1 : Nat)) % 4096 by
        unfold seqV
        rw [if_pos (inB_mk (by omega) (by omega))]
        push_cast
        omega)
      obtain ⟨d, hd⟩ : ∃ d, d = distV x y := ⟨_, rfl⟩
      obtain ⟨d', hd'⟩ : ∃ d', d' = distV y x := ⟨_, rfl⟩
      have hn1 : newerV x y = inB d' 1 2047 := by rw [hd']; rfl
      have hn2 : newerV y x = inB d 1 2047 := by rw [hd]; rfl
      rw [← hd]
      rw [← hd] at hd1
      rw [← hd'] at hd2
      have hdd := Lib.hid hd
      have hdd' := Lib.hid hd'
      have hD := Lib.hid (show (x = y ∧ d = 0 ∧ d' = 0) ∨ (x ≠ y ∧ d + d' = 4096 ∧ 1 ≤ d ∧ 1 ≤ d') by have := hd1.out; have := hd2.out; omega)
      have hdl : 0 ≤ d := by have := hd1.out; omega
      have hdu : d ≤ 4095 := by have := hd1.out; omega
      have hend := Lib.hid (show d ≤ 10 → (x + d) % 4096 = y by have := hd1.out; intro h; omega)
      clear hd hd'
      have hdm : ¬ d = -1 := by omega
      have hx2 : ¬ x < 0 := by omega
      have hx3 : ¬ 4095 < x := by omega
      have hy2 : ¬ y < 0 := by omega
      have hy3 : ¬ 4095 < y := by omega
      go_wp2
      go_loopw [6, 7] (fun s i wr => ∃ k : Nat, k ≤ 10 ∧ (k : Int) ≤ d ∧ s = .int .i64 ((x + k) % 4096) ∧ i = .int .i64 k ∧ wr = w1) (fun _ i _ => 10 - (intOf i).toNat)
      case atStart => exact ⟨0, by omega, by simpa using hdl, by simp; omega, rfl, rfl⟩
      case round =>
        obtain ⟨k, hk1, hk2, rfl, rfl, rfl⟩ := hrel
        by_cases hk : (k : Int) < d
        · by_cases hk10 : (k : Int) < 10
          · go_wp2_with fail
            refine (iNextSeq _ _).mono ?_
            rintro e w' ⟨rfl, rfl⟩
            rw [hloop.out k]
            go_wp2
            go_roundw
            case rel => refine ⟨k + 1, by omega, by push_cast; omega, rfl, by go_num, ?_⟩; first | rfl | trivial
            case measure => simp [intOf]; omega
          · have hd10 : 10 < d := by omega
            obtain ⟨hne, hs, -, -⟩ := hD.out.resolve_left (by omega)
            clear hx hy hk2 hloop hend hd1 hd2 hdd hD hdm hx2 hx3 hy2 hy3 hk1
            by_cases hb : inB d' 1 2047 = true
            · have hb' := inB_true hb
              rw [hb] at hn1
              have hn2f : inB d 1 2047 = false := inB_not (by omega)
              rw [hn2f] at hn2
              clear hb hn2f
              go_wp2_with fail
              refine (iDist _ _ _).mono ?_
              rintro e w' ⟨rfl, rfl⟩
              rw [← hdd'.out]
              go_wp2_with fail
              refine (iNewer _ _ _).mono ?_
              rintro e w' ⟨rfl, rfl⟩
              rw [hn1]
              go_wp2_with fail
              refine (iNewer _ _ _).mono ?_
              rintro e w' ⟨rfl, rfl⟩
              rw [hn2]
              go_wp2_with fail
              refine (iNextSeq _ _).mono ?_
              rintro e w' ⟨rfl, rfl⟩
              go_wp2_with fail
              refine (iNewer _ _ _).mono ?_
              rintro e w' ⟨rfl, rfl⟩
              rw [hn3]
              go_wp2_with fail
              go_ret
              exact ⟨rfl, E1.out⟩
            · rw [show inB d' 1 2047 = false by simpa using hb] at hn1
              clear hb
              go_wp2_with fail
              refine (iDist _ _ _).mono ?_
              rintro e w' ⟨rfl, rfl⟩
              rw [← hdd'.out]
              go_wp2_with fail
              refine (iNewer _ _ _).mono ?_
              rintro e w' ⟨rfl, rfl⟩
              rw [hn1]
              go_wp2_with fail
              refine (iNextSeq _ _).mono ?_
              rintro e w' ⟨rfl, rfl⟩
              go_wp2_with fail
              refine (iNewer _ _ _).mono ?_
              rintro e w' ⟨rfl, rfl⟩
              rw [hn3]
              go_wp2_with fail
              go_ret
              exact ⟨rfl, E1.out⟩
        · obtain rfl : (k : Int) = d := by omega
          by_cases hkk : k = 10
          · have hd10 : ¬ (10 : Int) < k := by omega
            have hk10 : ¬ (k : Int) < 10 := by omega
            have he := hend.out (by omega)
            rw [he]
            rcases hD.out with ⟨h1, h2, h3⟩ | ⟨hne, hs, -, -⟩
            · omega
            · clear hx hy hk2 hloop hend hd1 hd2 hdd hD hdm hx2 hx3 hy2 hy3 hk1 hkk
              by_cases hb : inB d' 1 2047 = true
              · have hb' := inB_true hb
                rw [hb] at hn1
                have hn2f : inB (k : Int) 1 2047 = false := inB_not (by omega)
                rw [hn2f] at hn2
                clear hb hn2f
                go_wp2_with fail
                refine (iDist _ _ _).mono ?_
                rintro e w' ⟨rfl, rfl⟩
                rw [← hdd'.out]
                go_wp2_with fail
                refine (iNewer _ _ _).mono ?_
                rintro e w' ⟨rfl, rfl⟩
                rw [hn1]
                go_wp2_with fail
                refine (iNewer _ _ _).mono ?_
                rintro e w' ⟨rfl, rfl⟩
                rw [hn2]
                go_wp2_with fail
                refine (iNextSeq _ _).mono ?_
                rintro e w' ⟨rfl, rfl⟩
                go_wp2_with fail
                refine (iNewer _ _ _).mono ?_
                rintro e w' ⟨rfl, rfl⟩
                rw [hn3]
                go_wp2_with fail
                go_ret
                exact ⟨rfl, E1.out⟩
              · rw [show inB d' 1 2047 = false by simpa using hb] at hn1
                clear hb
                go_wp2_with fail
                refine (iDist _ _ _).mono ?_
                rintro e w' ⟨rfl, rfl⟩
                rw [← hdd'.out]
                go_wp2_with fail
                refine (iNewer _ _ _).mono ?_
                rintro e w' ⟨rfl, rfl⟩
                rw [hn1]
                go_wp2_with fail
                refine (iNextSeq _ _).mono ?_
                rintro e w' ⟨rfl, rfl⟩
                go_wp2_with fail
                refine (iNewer _ _ _).mono ?_
                rintro e w' ⟨rfl, rfl⟩
                rw [hn3]
                go_wp2_with fail
                go_ret
                exact ⟨rfl, E1.out⟩
          · have hk10 : (k : Int) < 10 := by omega
            have hd10 : ¬ (10 : Int) < k := by omega
            have he := hend.out (by omega)
            rw [he]
            rcases hD.out with ⟨h1, h2, h3⟩ | ⟨hne, hs, -, -⟩
            · subst h1
              subst h3
              rw [h2] at hn2 hdl hdu
              obtain rfl : k = 0 := by omega
              rw [show inB 0 1 2047 = false from rfl] at hn1
              clear hx hy hk2 hloop hend hd1 hd2 hdd hD hdm hx2 hx3 hy2 hy3 hk1 hkk hn2 h2 he
              go_wp2_with fail
              refine (iDist _ _ _).mono ?_
              rintro e w' ⟨rfl, rfl⟩
              rw [← hdd'.out]
              go_wp2_with fail
              refine (iNewer _ _ _).mono ?_
              rintro e w' ⟨rfl, rfl⟩
              rw [hn1]
              go_wp2_with fail
              refine (iNextSeq _ _).mono ?_
              rintro e w' ⟨rfl, rfl⟩
              go_wp2_with fail
              refine (iNewer _ _ _).mono ?_
              rintro e w' ⟨rfl, rfl⟩
              rw [hn3]
              go_wp2_with fail
              go_ret
              exact ⟨rfl, E1.out⟩
            · clear hx hy hk2 hloop hend hd1 hd2 hdd hD hdm hx2 hx3 hy2 hy3 hk1 hkk
              by_cases hb : inB d' 1 2047 = true
              · have hb' := inB_true hb
                rw [hb] at hn1
                have hn2f : inB (k : Int) 1 2047 = false := inB_not (by omega)
                rw [hn2f] at hn2
                clear hb hn2f
                go_wp2_with fail
                refine (iDist _ _ _).mono ?_
                rintro e w' ⟨rfl, rfl⟩
                rw [← hdd'.out]
                go_wp2_with fail
                refine (iNewer _ _ _).mono ?_
                rintro e w' ⟨rfl, rfl⟩
                rw [hn1]
                go_wp2_with fail
                refine (iNewer _ _ _).mono ?_
                rintro e w' ⟨rfl, rfl⟩
                rw [hn2]
                go_wp2_with fail
                refine (iNextSeq _ _).mono ?_
                rintro e w' ⟨rfl, rfl⟩
                go_wp2_with fail
                refine (iNewer _ _ _).mono ?_
                rintro e w' ⟨rfl, rfl⟩
                rw [hn3]
                go_wp2_with fail
                go_ret
                exact ⟨rfl, E1.out⟩
              · rw [show inB d' 1 2047 = false by simpa using hb] at hn1
                clear hb
                go_wp2_with fail
                refine (iDist _ _ _).mono ?_
                rintro e w' ⟨rfl, rfl⟩
                rw [← hdd'.out]
                go_wp2_with fail
                refine (iNewer _ _ _).mono ?_
                rintro e w' ⟨rfl, rfl⟩
                rw [hn1]
                go_wp2_with fail
                refine (iNextSeq _ _).mono ?_
                rintro e w' ⟨rfl, rfl⟩
                go_wp2_with fail
                refine (iNewer _ _ _).mono ?_
                rintro e w' ⟨rfl, rfl⟩
                rw [hn3]
                go_wp2_with fail
                go_ret
                exact ⟨rfl, E1.out⟩
    · have hd : distV x y = -1 := by
        unfold distV
        rw [if_neg]
        simp only [Bool.and_eq_true, not_and]
        intro h1 h2
        exact hin ⟨inB_true h1, inB_true h2⟩
      have hnw : newerV x y = false := by
        unfold newerV distV
        rw [if_neg]
        · rfl
        · simp only [Bool.and_eq_true, not_and]
          intro h1 h2
          exact hin ⟨inB_true h2, inB_true h1⟩
      rw [hd]
      clear hd
      by_cases h1 : x < 0
      · go_wp2_with (go_at_call 22; refine (iNewer _ _ _).mono ?_; rintro e w' ⟨rfl, rfl⟩; rw [hnw])
        go_ret
        exact ⟨rfl, E1.out⟩
      · by_cases h2 : 4095 < x
        · go_wp2_with (go_at_call 22; refine (iNewer _ _ _).mono ?_; rintro e w' ⟨rfl, rfl⟩; rw [hnw])
          go_ret
          exact ⟨rfl, E1.out⟩
        · by_cases h3 : y < 0
          · go_wp2_with (go_at_call 22; refine (iNewer _ _ _).mono ?_; rintro e w' ⟨rfl, rfl⟩; rw [hnw])
            go_ret
            exact ⟨rfl, E1.out⟩
          · have h4 : 4095 < y := by omega
            go_wp2_with (go_at_call 22; refine (iNewer _ _ _).mono ?_; rintro e w' ⟨rfl, rfl⟩; rw [hnw])
            go_ret
            exact ⟨rfl, E1.out⟩
end Go.Proofs.Ytkmklafjcjkpdaa
