/- The law on equal lists of reassemblies: the program's side and the walk. -/
import Derived.Test.YtchhjidldppciaaG16
namespace Go.Proofs.Ytchhjidldppciaa
open Go.RowKit
set_option linter.unusedVariables false
set_option linter.unusedSimpArgs false
theorem rea_rd2 {w : World} {cs : List Value} (h : Rd Try.prog w 99 cs) : ∃ m : Rea, kE kRea w m cs ∧ Byt m.body := by
  have hl := (Rd.struct Try.underlying99 h).1
  rw [show Try.prog.cellsOf 99 = 5 from by kernel_rfl] at hl
  obtain ⟨x0, h0⟩ := int_f Try.underlying99 h 0 _ rfl Try.underlying3 cells_int1
  obtain ⟨x1, h1⟩ := int_f Try.underlying99 h 1 _ rfl Try.underlying3 cells_int1
  obtain ⟨x2, h2⟩ := int_f Try.underlying99 h 2 _ rfl Try.underlying3 cells_int1
  obtain ⟨A, l, c, h3, h9, h10⟩ := bytes_f2 Try.underlying99 h 3 _ rfl rfl
  obtain ⟨x4, h4⟩ := int_f Try.underlying99 h 4 _ rfl Try.underlying3 cells_int1
  match cs, hl with
  | [c0, c1, c2, c3, c4], _ =>
    simp at h0 h1 h2 h3 h4
    subst h0 h1 h2 h3 h4
    exact ⟨⟨x0, x1, x2, x4, l⟩, ⟨A, c, rfl, h9⟩, h10⟩
theorem view_reas {w : World} {A : Option Addr} {n c : Nat} (h : Rd Try.prog w 59 [.slice A n c]) : ∃ l : List Rea, l.length = n ∧ Els w A 5 (kE kRea) l ∧ n ≤ maxLen ∧ ∀ m ∈ l, Byt m.body := by
  obtain ⟨l, h1, h2, h3, h4, h5⟩ := view_els (E := fun w m cs => kE kRea w m cs ∧ Byt m.body) Try.underlying59 (by rw [show Try.prog.cellsOf 99 = 5 from by kernel_rfl]; decide) (fun es h => rea_rd2 h) h
  rw [show Try.prog.cellsOf 99 = 5 from by kernel_rfl] at h2
  refine ⟨l, h1, ?_, by omega, ?_⟩
  · rcases h2 with h2 | ⟨b, off, e1, e2, e3⟩
    · exact .inl h2
    · exact .inr ⟨b, off, e1, e2, fun i hi => by obtain ⟨cs, q1, q2⟩ := e3 i hi; exact ⟨cs, q1.1, q2⟩⟩
  · rcases h2 with h2 | ⟨b, off, e1, e2, e3⟩
    · subst h2; simp
    · intro m hm
      obtain ⟨i, hi, rfl⟩ := List.getElem_of_mem hm
      obtain ⟨cs, q1, q2⟩ := e3 i hi
      exact q1.2
set_option maxRecDepth 4000 in
set_option maxHeartbeats 4000000 in
theorem iEqRea (w : World) (A A' : Option Addr) (n n' c c' : Nat) (l l' : List Rea) (hn : l.length = n) (hn' : l'.length = n') (hM : Els w A 5 (kE kRea) l) (hM' : Els w A' 5 (kE kRea) l') (hb : ∀ m ∈ l, Byt m.body) (hb' : ∀ m ∈ l', Byt m.body) (hl : n ≤ 1048577) (hl' : n' ≤ 1048577) :
    Calls Try.prog 47 #[.slice A n c, .slice A' n' c'] w fun e w' => e = .returned (.bool (decide (l = l'))) ∧ Below w.heap.size w w' := by
  have hn1 := Lib.hid hn
  have hn2 := Lib.hid hn'
  have hb1 := Lib.hid hb
  have hb1' := Lib.hid hb'
  clear hb hb' hn hn'
  by_cases hlen : n = n'
  · subst hlen
    go_enter Try.func47, Try.ntmps47
    go_wp2
    go_loopw [15] (fun i wr => ∃ k : Nat, k ≤ n ∧ i = .int .i64 k ∧ Ext w wr ∧ Hid (l.take k = l'.take k)) (fun i _ => n - (intOf i).toNat)
    case atStart => exact ⟨0, Nat.zero_le _, rfl, Ext.refl _, Lib.hid rfl⟩
    case round =>
      obtain ⟨k, hk, rfl, hE, hI⟩ := hrel
      by_cases hkn : k < n
      · have hlt : k < l.length := by rw [hn1.out]; exact hkn
        have hlt' : k < l'.length := by rw [hn2.out]; exact hkn
        obtain ⟨b, off, rfl, hb, hc⟩ := (els_up hM hE).at_ (List.ne_nil_of_length_pos (by omega))
        obtain ⟨b', off', rfl, hb', hc'⟩ := (els_up hM' hE).at_ (List.ne_nil_of_length_pos (by omega))
        obtain ⟨B, cB, hRB, k0, k1, k2, k3, k4⟩ := els_rea hc k hlt
        obtain ⟨B', cB', hRB', m0, m1, m2, m3, m4⟩ := els_rea hc' k hlt'
        have p0 : (0 : Int) ≤ (k : Int) := by omega
        have p1 : (k : Int) < (n : Int) := by omega
        have y1 := Lib.hid (hb1.out _ (List.getElem_mem hlt))
        have y2 := Lib.hid (hb1'.out _ (List.getElem_mem hlt'))
        have R1 := Lib.hid hRB
        have R2 := Lib.hid hRB'
        have hne := Lib.hid (fun h => list_ne (l := l) (l' := l') hlt hlt' h)
        have hsm := Lib.hid (fun h => take_same (l := l) (l' := l') hlt hlt' hI.out h)
        clear hc hc' hM hM' hRB hRB' hI
        generalize l[k] = x at *
        generalize l'[k] = x' at *
        clear hlt hlt'
        obtain ⟨f1, s1, n1, t1, bd1⟩ := x
        obtain ⟨f2, s2, n2, t2, bd2⟩ := x'
        simp only at k0 k1 k2 k3 k4 m0 m1 m2 m3 m4 R1 R2 y1 y2
        go_wp2_with fail
        go_region
        all_goals
          by_cases h1 : f1 = f2
          · subst h1
            by_cases h2 : s1 = s2
            · subst h2
              by_cases h3 : n1 = n2
              · subst h3
                by_cases h4 : t1 = t2
                · subst h4
                  by_cases h5 : bd1 = bd2
                  · have hF := Lib.hid (hsm.out (by subst h5; rfl))
                    have h5' := Lib.hid (decide_eq_true h5)
                    clear h5
                    go_wp2_with fail
                    refine (iEqB _ _ _ _ _ _ bd1 bd2 rfl rfl _ (R1.out.ext (Ext.drew (Ext.trans (Ext.alloc_ _ _) (Ext.alloc_ _ _)))) (R2.out.ext (Ext.drew (Ext.trans (Ext.alloc_ _ _) (Ext.alloc_ _ _)))) (by have := y1.out.1; unfold maxLen at this; omega) (by have := y2.out.1; unfold maxLen at this; omega)).mono ?_
                    rintro e w2 ⟨rfl, hb2⟩
                    rw [h5'.out]
                    have hb2' := Lib.hid hb2
                    clear hb2
                    go_wp2
                    go_roundw
                    case rel => exact ⟨k + 1, by omega, by go_num, Ext.trans hE (Ext.trans (Ext.drew (Ext.trans (Ext.alloc_ _ _) (Ext.alloc_ _ _))) hb2'.out), hF⟩
                    case measure => simp [intOf]; omega
                  · have hF := Lib.hid (show decide (l = l') = false from hne.out (by intro h; injection h with _ _ _ _ h; exact h5 h))
                    have h5' := Lib.hid (decide_eq_false h5)
                    clear h5
                    go_wp2_with fail
                    refine (iEqB _ _ _ _ _ _ bd1 bd2 rfl rfl _ (R1.out.ext (Ext.drew (Ext.trans (Ext.alloc_ _ _) (Ext.alloc_ _ _)))) (R2.out.ext (Ext.drew (Ext.trans (Ext.alloc_ _ _) (Ext.alloc_ _ _)))) (by have := y1.out.1; unfold maxLen at this; omega) (by have := y2.out.1; unfold maxLen at this; omega)).mono ?_
                    rintro e w2 ⟨rfl, hb2⟩
                    rw [h5'.out]
                    have hb2' := Lib.hid hb2
                    clear hb2
                    go_wp2
                    go_ret
                    exact ⟨(by rw [hF.out]; first | done | rfl), Ext.trans hE (Ext.trans (Ext.drew (Ext.trans (Ext.alloc_ _ _) (Ext.alloc_ _ _))) hb2'.out)⟩
                · have hF := Lib.hid (show decide (l = l') = false from hne.out (by intro h; injection h; omega))
                  go_wp2
                  go_ret
                  exact ⟨(by rw [hF.out]; first | done | rfl), Ext.trans hE (Ext.drew (Ext.trans (Ext.alloc_ _ _) (Ext.alloc_ _ _)))⟩
              · have hF := Lib.hid (show decide (l = l') = false from hne.out (by intro h; injection h; omega))
                go_wp2
                go_ret
                exact ⟨(by rw [hF.out]; first | done | rfl), Ext.trans hE (Ext.drew (Ext.trans (Ext.alloc_ _ _) (Ext.alloc_ _ _)))⟩
            · have hF := Lib.hid (show decide (l = l') = false from hne.out (by intro h; injection h; omega))
              go_wp2
              go_ret
              exact ⟨(by rw [hF.out]; first | done | rfl), Ext.trans hE (Ext.drew (Ext.trans (Ext.alloc_ _ _) (Ext.alloc_ _ _)))⟩
          · have hF := Lib.hid (show decide (l = l') = false from hne.out (by intro h; injection h; omega))
            go_wp2
            go_ret
            exact ⟨(by rw [hF.out]; first | done | rfl), Ext.trans hE (Ext.drew (Ext.trans (Ext.alloc_ _ _) (Ext.alloc_ _ _)))⟩
      · obtain rfl : k = n := by omega
        have hF := Lib.hid (show decide (l = l') = true by
          apply decide_eq_true
          have := hI.out
          rwa [List.take_of_length_le (by have := hn1.out; omega), List.take_of_length_le (by have := hn2.out; omega)] at this)
        clear hM hM'
        go_wp2
        go_ret
        exact ⟨(by rw [hF.out]; first | done | rfl), hE⟩
  · have hlen2 : ¬ (n : Int) = (n' : Int) := by omega
    have hF := Lib.hid (show decide (l = l') = false from decide_eq_false (fun he => hlen (by rw [← hn1.out, ← hn2.out, he])))
    clear hM hM'
    go_enter Try.func47, Try.ntmps47
    go_wp2
    go_ret
    exact ⟨(by rw [hF.out]; first | done | rfl), Ext.refl _⟩
theorem walk_FnExactEqualReassemblies (a0 : Option Addr) (n0 c0 : Nat) (a1 : Option Addr) (n1 c1 : Nat) (w : World) (r0 : Rd Try.prog w 59 [.slice a0 n0 c0]) (r1 : Rd Try.prog w 59 [.slice a1 n1 c1]) :
    Calls Try.prog 12 #[.slice a0 n0 c0, .slice a1 n1 c1] w fun e w' => e = .returned (.bool true) ∧ Below w.heap.size w w' := by
  obtain ⟨l, hn, hM, hm, hby⟩ := view_reas r0
  obtain ⟨l', hn', hM', hm', hby'⟩ := view_reas r1
  have N1 := Lib.hid hn
  have N2 := Lib.hid hn'
  have M1 := Lib.hid hM
  have M2 := Lib.hid hM'
  have X1 := Lib.hid hm
  have X2 := Lib.hid hm'
  have B1 := Lib.hid hby
  have B2 := Lib.hid hby'
  have C1 : Hid (∀ i (h : i < l.length), l[i].body.length ≤ maxLen) := fun i h => (hby _ (List.getElem_mem h)).1
  have C2 : Hid (∀ i (h : i < l'.length), l'[i].body.length ≤ maxLen) := fun i h => (hby' _ (List.getElem_mem h)).1
  have T1 := Lib.hid (tot_nonneg (K := kRea) l)
  have T2 := Lib.hid (tot_nonneg (K := kRea) l')
  obtain ⟨q, hq⟩ : ∃ q, decide (l = l') = q := ⟨_, rfl⟩
  have Q := Lib.hid hq
  clear r0 r1 hn hn' hM hM' hm hm' hby hby' hq
  by_cases hbig : (1048576 : Int) < (n0 : Int) + tot kRea l
  · go_enter Try.func12, Try.ntmps12
    go_wp2_with fail
    refine (szReaS_ _ _ _ _ l _ N1.out M1.out C1.out ⟨by omega, by omega⟩ X1.out).mono ?_
    rintro e w1 ⟨rfl, h1⟩
    rw [if_pos hbig]
    go_wp2_with fail
    go_ret
    exact ⟨rfl, h1⟩
  · have L1 := Lib.hid (show (n0 : Int) + tot kRea l ≤ 1048576 by omega)
    by_cases hbig2 : (1048576 : Int) - (n0 + tot kRea l) < (n1 : Int) + tot kRea l'
    · go_enter Try.func12, Try.ntmps12
      go_wp2_with fail
      refine (szReaS_ _ _ _ _ l _ N1.out M1.out C1.out ⟨by omega, by omega⟩ X1.out).mono ?_
      rintro e w1 ⟨rfl, h1⟩
      rw [if_neg (by omega)]
      have h1' := Lib.hid h1
      have hs2 : ¬ (1048576 - ((n0 : Int) + tot kRea l) < 0) := by omega
      clear h1
      go_wp2_with fail
      refine (szReaS_ _ _ _ _ l' _ N2.out (els_up M2.out h1'.out) C2.out ⟨by omega, by have := T1.out; omega⟩ X2.out).mono ?_
      rintro e w2 ⟨rfl, h2⟩
      rw [if_pos hbig2]
      clear hs2
      go_wp2_with fail
      go_ret
      exact ⟨rfl, Ext.trans h1'.out h2⟩
    · have L2 := Lib.hid (show (n1 : Int) + tot kRea l' ≤ 1048576 by have := T1.out; omega)
      have K1 := Lib.hid (show n0 ≤ 1048577 by have := L1.out; have := T1.out; omega)
      have K2 := Lib.hid (show n1 ≤ 1048577 by have := L2.out; have := T2.out; omega)
      go_enter Try.func12, Try.ntmps12
      go_wp2_with fail
      refine (szReaS_ _ _ _ _ l _ N1.out M1.out C1.out ⟨by omega, by omega⟩ X1.out).mono ?_
      rintro e w1 ⟨rfl, h1⟩
      rw [if_neg (by omega)]
      have h1' := Lib.hid h1
      have hs2 : ¬ (1048576 - ((n0 : Int) + tot kRea l) < 0) := by omega
      clear h1
      go_wp2_with fail
      refine (szReaS_ _ _ _ _ l' _ N2.out (els_up M2.out h1'.out) C2.out ⟨by omega, by have := T1.out; omega⟩ X2.out).mono ?_
      rintro e w2 ⟨rfl, h2⟩
      rw [if_neg (by omega)]
      have hs3 : ¬ (1048576 - ((n0 : Int) + tot kRea l) - ((n1 : Int) + tot kRea l') < 0) := by omega
      have E2 := Lib.hid (Ext.trans h1'.out h2)
      clear h2 hs2 hbig hbig2
      go_wp2_with fail
      refine (toReaS_ _ _ _ _ l N1.out (els_up M1.out E2.out) L1.out).mono ?_
      rintro e w3 ⟨rfl, h3, hO3⟩
      have E3 := Lib.hid (Ext.trans E2.out h3)
      have O3 := Lib.hid hO3.els
      clear h3 hO3 hs3
      go_wp2_with fail
      refine (toReaS_ _ _ _ _ l' N2.out (els_up M2.out E3.out) L2.out).mono ?_
      rintro e w4 ⟨rfl, h4, hO4⟩
      have E4 := Lib.hid (Ext.trans E3.out h4)
      have O4 := Lib.hid hO4.els
      have F4 := Lib.hid h4
      clear h4 hO4
      go_wp2_with fail
      refine (sEqRea _ _ _ _ _ _ _ l l' N1.out N2.out (els_up O3.out F4.out) O4.out B1.out B2.out K1.out K2.out).mono ?_
      rintro e w5 ⟨rfl, h5⟩
      rw [Q.out]
      have E5 := Lib.hid (Ext.trans E4.out h5)
      clear h5 F4
      go_wp2_with fail
      refine (toReaS_ _ _ _ _ l N1.out (els_up M1.out E5.out) L1.out).mono ?_
      rintro e w6 ⟨rfl, h6, hO6⟩
      have E6 := Lib.hid (Ext.trans E5.out h6)
      have O6 := Lib.hid hO6.els
      clear h6 hO6
      go_wp2_with fail
      refine (toReaS_ _ _ _ _ l' N2.out (els_up M2.out E6.out) L2.out).mono ?_
      rintro e w7 ⟨rfl, h7, hO7⟩
      have E7 := Lib.hid (Ext.trans E6.out h7)
      have O7 := Lib.hid hO7.els
      have F7 := Lib.hid h7
      clear h7 hO7
      go_wp2_with fail
      refine (iEqRea _ _ _ _ _ _ _ l l' N1.out N2.out (els_up O6.out F7.out) O7.out B1.out B2.out K1.out K2.out).mono ?_
      rintro e w8 ⟨rfl, h8⟩
      rw [Q.out]
      have E8 := Lib.hid (Ext.trans E7.out h8)
      have F8 := Lib.hid (Ext.trans F7.out h8)
      have G8 := Lib.hid h8
      clear h8 F7
      go_wp2_with fail
      refine (toReaS_ _ _ _ _ l N1.out (els_up M1.out E8.out) L1.out).mono ?_
      rintro e w9 ⟨rfl, h9, hO9⟩
      have E9 := Lib.hid (Ext.trans E8.out h9)
      have O9 := Lib.hid hO9.els
      have F9 := Lib.hid (Ext.trans F8.out h9)
      have G9 := Lib.hid (Ext.trans G8.out h9)
      clear h9 hO9 F8 G8
      go_wp2_with fail
      refine (eqReaS_ _ _ _ _ _ _ l N1.out (els_up O6.out F9.out) O9.out (by have := L1.out; omega)).mono ?_
      rintro e w10 ⟨rfl, h10⟩
      have E10 := Lib.hid (Ext.trans E9.out h10)
      have G10 := Lib.hid (Ext.trans G9.out h10)
      clear h10 F9 G9
      go_wp2_with fail
      refine (toReaS_ _ _ _ _ l' N2.out (els_up M2.out E10.out) L2.out).mono ?_
      rintro e w11 ⟨rfl, h11, hO11⟩
      have E11 := Lib.hid (Ext.trans E10.out h11)
      have O11 := Lib.hid hO11.els
      have G11 := Lib.hid (Ext.trans G10.out h11)
      clear h11 hO11 G10
      go_wp2_with fail
      refine (eqReaS_ _ _ _ _ _ _ l' N2.out (els_up O7.out G11.out) O11.out (by have := L2.out; omega)).mono ?_
      rintro e w12 ⟨rfl, h12⟩
      have E12 := Lib.hid (Ext.trans E11.out h12)
      clear h12
      go_wp2_with fail
      go_ret
      exact ⟨rfl, E12.out⟩
end Go.Proofs.Ytchhjidldppciaa
