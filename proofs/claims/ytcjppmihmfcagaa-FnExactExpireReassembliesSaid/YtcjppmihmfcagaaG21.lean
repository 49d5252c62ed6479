/- The law on expired reassemblies. -/
import Derived.Test.YtcjppmihmfcagaaLaw
import Derived.Test.YtcjppmihmfcagaaExpR
namespace Go.Proofs.Ytcjppmihmfcagaa
open Go.RowKit
set_option linter.unusedVariables false
set_option linter.unusedSimpArgs false
theorem rea_rd2 {w : World} {cs : List Value} (h : Rd Try.prog w 90 cs) : ∃ m : Rea, kE kRea w m cs ∧ Byt m.body := by
  have hl := (Rd.struct Try.underlying90 h).1
  rw [show Try.prog.cellsOf 90 = 5 from by kernel_rfl] at hl
  obtain ⟨x0, h0⟩ := int_f Try.underlying90 h 0 _ rfl Try.underlying3 cells_int1
  obtain ⟨x1, h1⟩ := int_f Try.underlying90 h 1 _ rfl Try.underlying3 cells_int1
  obtain ⟨x2, h2⟩ := int_f Try.underlying90 h 2 _ rfl Try.underlying3 cells_int1
  obtain ⟨A, l, c, h3, h9, h10⟩ := bytes_f2 Try.underlying90 h 3 _ rfl rfl
  obtain ⟨x4, h4⟩ := int_f Try.underlying90 h 4 _ rfl Try.underlying3 cells_int1
  match cs, hl with
  | [c0, c1, c2, c3, c4], _ =>
    simp at h0 h1 h2 h3 h4
    subst h0 h1 h2 h3 h4
    exact ⟨⟨x0, x1, x2, x4, l⟩, ⟨A, c, rfl, h9⟩, h10⟩
theorem view_reas {w : World} {A : Option Addr} {n c : Nat} (h : Rd Try.prog w 40 [.slice A n c]) : ∃ l : List Rea, l.length = n ∧ Els w A 5 (kE kRea) l ∧ n ≤ maxLen ∧ ∀ m ∈ l, Byt m.body := by
  obtain ⟨l, h1, h2, h3, h4, h5⟩ := view_els (E := fun w m cs => kE kRea w m cs ∧ Byt m.body) Try.underlying40 (by rw [show Try.prog.cellsOf 90 = 5 from by kernel_rfl]; decide) (fun es h => rea_rd2 h) h
  rw [show Try.prog.cellsOf 90 = 5 from by kernel_rfl] at h2
  refine ⟨l, h1, ?_, by omega, ?_⟩
  · rcases h2 with h2 | ⟨b, off, e1, e2, e3⟩
    · exact .inl h2
    · exact .inr ⟨b, off, e1, e2, fun i hi => by obtain ⟨cs, q1, q2⟩ := e3 i hi; exact ⟨cs, q1.1, q2⟩⟩
  · rcases h2 with h2 | ⟨b, off, e1, e2, e3⟩
    · subst h2; simp
    · intro m hm
      obtain ⟨i, hi, rfl⟩ := List.getElem_of_mem hm
      obtain ⟨cs, q1, q2⟩ := e3 i hi
      exact q1.2
theorem keepR_sub (now : Int) (l : List Rea) : (keepR now l).Sublist l := List.filter_sublist
theorem walk_FnExactExpireReassemblies (a0 : Option Addr) (n0 c0 : Nat) (a1 : Int) (w : World) (r0 : Rd Try.prog w 40 [.slice a0 n0 c0]) (w1 : (Lit.int .i64 a1).wf = true) :
    Calls Try.prog 5 #[.slice a0 n0 c0, .int .i64 a1] w fun e w' => e = .returned (.bool true) ∧ Below w.heap.size w w' := by
  obtain ⟨l, hn, hM, hm, hby⟩ := view_reas r0
  have N1 := Lib.hid hn
  have M1 := Lib.hid hM
  have X1 := Lib.hid hm
  have C1 : Hid (∀ i (h : i < l.length), l[i].body.length ≤ maxLen) := fun i h => (hby _ (List.getElem_mem h)).1
  have T1 := Lib.hid (tot_nonneg (K := kRea) l)
  clear r0 w1 hn hM hm hby
  by_cases hbig : (1048576 : Int) < (n0 : Int) + tot kRea l
  · go_enter Try.func5, Try.ntmps5
    go_wp2_with fail
    refine (szReaS_ _ _ _ _ l _ N1.out M1.out C1.out ⟨by omega, by omega⟩ X1.out).mono ?_
    rintro e w1 ⟨rfl, h1⟩
    rw [if_pos hbig]
    go_wp2_with fail
    go_ret
    exact ⟨rfl, h1⟩
  · have L1 := Lib.hid (show (n0 : Int) + tot kRea l ≤ 1048576 by omega)
    have K1 := Lib.hid (show n0 ≤ 1048577 by have := L1.out; have := T1.out; omega)
    have D1 : Hid (∀ m ∈ l, m.body.length ≤ 1048576) := fun m hm => by
      obtain ⟨i, hi, rfl⟩ := List.getElem_of_mem hm
      have h1 := tot_one_le (K := kRea) l i hi
      rw [kRea_bd] at h1
      have := L1.out
      omega
    obtain ⟨L, hL⟩ : ∃ L, L = keepR a1 l := ⟨_, rfl⟩
    have hL' := Lib.hid hL
    have S1 := Lib.hid (show (L.length : Int) + tot kRea L ≤ 1048576 ∧ ((sumC cRea L : Nat) : Int) ≤ 4194304 ∧ ((sumC cRea l : Nat) : Int) ≤ 4194304 by
      have h1 := tot_sub (K := kRea) (keepR_sub a1 l)
      rw [← hL] at h1
      have h2 := sumC_rea L
      have h3 := sumC_rea l
      have h4 := tot_nonneg (K := kRea) L
      have h5 := tot_nonneg (K := kRea) l
      have h6 := L1.out
      have h7 := N1.out
      refine ⟨by omega, by omega, by omega⟩)
    clear hL
    have hnl : ¬ (1 + ((sumC cRea l : Nat) : Int) < 0) := by omega
    have hnL : ¬ (1 + ((sumC cRea L : Nat) : Int) < 0) := by omega
    go_enter Try.func5, Try.ntmps5
    go_wp2_with fail
    refine (szReaS_ _ _ _ _ l _ N1.out M1.out C1.out ⟨by omega, by omega⟩ X1.out).mono ?_
    rintro e w1 ⟨rfl, h1⟩
    rw [if_neg (by omega)]
    have hs2 : ¬ (1048576 - ((n0 : Int) + tot kRea l) < 0) := by omega
    have E1 := Lib.hid h1
    clear h1 hbig
    go_wp2_with fail
    refine (toReaS_ _ _ _ _ l N1.out (els_up M1.out E1.out) L1.out).mono ?_
    rintro e w2 ⟨rfl, h2, hO2⟩
    have E2 := Lib.hid (Ext.trans E1.out h2)
    have M2 := Lib.hid hO2.els
    clear h2 hO2 hs2
    go_wp2_with fail
    refine (sExpR _ _ _ _ _ l N1.out M2.out D1.out K1.out (Nat.le_refl _)).mono ?_
    rintro e w3 ⟨Aw, cw, rfl, h3, hO3⟩
    rw [← hL'.out]
    rw [← hL'.out] at hO3
    have E3 := Lib.hid (Ext.trans E2.out h3)
    have O3 := Lib.hid hO3
    have z3 := Lib.hid (show w.heap.size ≤ w2.heap.size ∧ w2.heap.size ≤ w3.heap.size from ⟨E2.out.size, h3.size⟩)
    clear h3 hO3 M2
    go_wp2_with fail
    refine (toReaS_ _ _ _ _ l N1.out (els_up M1.out E3.out) L1.out).mono ?_
    rintro e w4 ⟨rfl, h4, hO4⟩
    have F4 := Lib.hid h4
    have E4 := Lib.hid (Ext.trans E3.out F4.out)
    have O4 := Lib.hid hO4
    have z4 := Lib.hid (show w3.heap.size ≤ w4.heap.size from h4.size)
    clear h4 hO4
    go_wp2_with fail
    refine (iExpR _ _ _ _ _ l N1.out O4.out.els D1.out K1.out).mono ?_
    rintro e w5 ⟨Ag, cg, rfl, h5, hO5⟩
    rw [← hL'.out]
    rw [← hL'.out] at hO5
    have F5 := Lib.hid h5
    have E5 := Lib.hid (Ext.trans E4.out F5.out)
    have O5 := Lib.hid hO5
    have z5 := Lib.hid (show w4.heap.size ≤ w5.heap.size from h5.size)
    have P3 := Lib.hid (O3.out.ext (Ext.trans F4.out F5.out))
    have P4 := Lib.hid (O4.out.ext F5.out)
    clear h5 hO5 O3 O4 F4 F5 E1 E2 E3 E4
    go_wp2_with fail
    refine (eqReaS_ _ _ _ _ _ _ L rfl O5.out.els P3.out.els (by have := S1.out.1; omega)).mono ?_
    rintro e w6 ⟨rfl, h6⟩
    have Q6 := Lib.hid h6
    clear h6
    go_wp2_with fail
    refine (toReaS_ _ _ _ _ l N1.out (els_up M1.out (Ext.trans E5.out Q6.out)) L1.out).mono ?_
    rintro e w7 ⟨rfl, h7, hO7⟩
    have Q7 := Lib.hid (Ext.trans Q6.out h7)
    have M7 := Lib.hid hO7.els
    clear h7 hO7 Q6
    go_wp2_with fail
    refine (eqReaS_ _ _ _ _ _ _ l N1.out (els_up P4.out.els Q7.out) M7.out (by have := L1.out; omega)).mono ?_
    rintro e w70 ⟨rfl, h7⟩
    have Q70 := Lib.hid (Ext.trans Q7.out h7)
    clear h7 Q7 M7
    go_wp2_with fail
    refine (markReaS_ _ _ _ _ w3.heap.size w4.heap.size _ l N1.out (P4.out.ext Q70.out) (by omega) (by have := S1.out.2.2; omega)).mono ?_
    rintro e w8 ⟨rfl, h8, -, -⟩
    have C8 := Lib.hid ((Chg.of_ext (fun b => w3.heap.size ≤ b ∧ b < w4.heap.size) Q70.out).trans h8)
    clear h8 Q70
    have P3' := Lib.hid (P3.out.chg C8.out (fun x h1 h2 h3 => by omega))
    have O5' := Lib.hid (O5.out.chg C8.out (fun x h1 h2 h3 => by omega))
    have E8 := Lib.hid (C8.out.ext E5.out (fun x hx => by have := z3.out; omega))
    clear P3 O5 C8 E5 P4
    go_wp2_with fail
    refine (eqReaS_ _ _ _ _ _ _ L rfl O5'.out.els P3'.out.els (by have := S1.out.1; omega)).mono ?_
    rintro e w9 ⟨rfl, h9⟩
    have Q9 := Lib.hid h9
    clear h9
    go_wp2_with fail
    refine (markReaS_ _ _ _ _ w4.heap.size w5.heap.size _ L rfl (O5'.out.ext Q9.out) (by omega) (by have := S1.out.2.1; omega)).mono ?_
    rintro e w10 ⟨rfl, h10, -, hO10⟩
    have C10 := Lib.hid ((Chg.of_ext (fun b => w4.heap.size ≤ b ∧ b < w5.heap.size) Q9.out).trans h10)
    have O10 := Lib.hid hO10
    clear h10 hO10 Q9
    have P10 := Lib.hid (P3'.out.chg C10.out (fun x h1 h2 h3 => by have := z4.out; omega))
    have E10 := Lib.hid (C10.out.ext E8.out (fun x hx => by have := z3.out; have := z4.out; omega))
    clear P3' O5' C10 E8
    go_wp2_with fail
    refine (heldReaS_ _ _ _ _ _ L rfl O10.out.els (by omega) (by have := S1.out.2.1; omega)).mono ?_
    rintro e w11 ⟨rfl, h11⟩
    have Q11 := Lib.hid h11
    clear h11
    go_wp2_with fail
    refine (toReaS_ _ _ _ _ l N1.out (els_up M1.out (Ext.trans E10.out Q11.out)) L1.out).mono ?_
    rintro e w12 ⟨rfl, h12, hO12⟩
    have Q12 := Lib.hid (Ext.trans Q11.out h12)
    have M12 := Lib.hid hO12.els
    clear h12 hO12 Q11
    go_wp2_with fail
    refine (iExpR _ _ _ _ _ l N1.out M12.out D1.out K1.out).mono ?_
    rintro e w13 ⟨Ah, ch, rfl, h13, hO13⟩
    rw [← hL'.out]
    rw [← hL'.out] at hO13
    have Q13 := Lib.hid (Ext.trans Q12.out h13)
    have O13 := Lib.hid hO13.els
    clear h13 hO13 Q12 M12
    go_wp2_with fail
    refine (eqReaS_ _ _ _ _ _ _ L rfl O13.out (els_up P10.out.els Q13.out) (by have := S1.out.1; omega)).mono ?_
    rintro e w14 ⟨rfl, h14⟩
    have Q14 := Lib.hid (Ext.trans Q13.out h14)
    clear h14
    go_wp2_with fail
    refine (heldReaS_ _ _ _ _ _ L rfl (els_up O10.out.els Q14.out) (by omega) (by have := S1.out.2.1; omega)).mono ?_
    rintro e w15 ⟨rfl, h15⟩
    have Q15 := Lib.hid (Ext.trans Q14.out h15)
    clear h15
    go_wp2_with fail
    go_ret
    exact ⟨rfl, Ext.trans E10.out Q15.out⟩
end Go.Proofs.Ytcjppmihmfcagaa
