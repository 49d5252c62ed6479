/- Who is exposed: the contracts. -/
import Derived.Test.YtkmklafjcjkpdaaEps
namespace Go.Proofs.Ytkmklafjcjkpdaa
open Go.RowKit
set_option linter.unusedVariables false
set_option linter.unusedSimpArgs false
set_option maxRecDepth 8000 in
set_option maxHeartbeats 4000000 in
theorem iExp (w : World) (A : Option Addr) (n c : Nat) (rg sn a b x y : Int) (P : List Int) (hn : P.length = n) (hC : Cel w A (P.map (Value.int .i64))) (hl : n ≤ 1048576) :
    Calls Try.prog 58 #[.agg #[.slice A n c, .int .i64 rg, .int .i64 sn], .int .i64 a, .int .i64 b, .int .i64 x, .int .i64 y] w fun e w' => e = .returned (.bool (exB P rg sn a b x y)) ∧ Ext w w' := by
  have b1 := Lib.hid (new_blk1 w #[.slice A n c, .int .i64 rg, .int .i64 sn] 74)
  have E1 := Lib.hid (Ext.alloc_ w (.cells #[.slice A n c, .int .i64 rg, .int .i64 sn] 74))
  have HC1 := Lib.hid (hC.ext E1.out)
  have HN := Lib.hid hn
  obtain ⟨V, hV⟩ : ∃ V, exB P rg sn a b x y = V := ⟨_, rfl⟩
  rw [hV]
  have HV := Lib.hid hV
  have DNO : (a = b ∨ a = x ∨ a = y ∨ b = x ∨ b = y ∨ x = y) → V = false := fun h => by rw [← HV.out, ex_eq, dif_no h]; simp
  have HDN := Lib.hid DNO
  clear hC hn hV DNO
  obtain ⟨x1, x2, x3⟩ := blk_cells (b1.out)
  have p0 := x1 0
  have p1 := x1 1
  have p2 := x1 2
  simp at p0 p1 p2
  clear x1
  by_cases h1 : a = b
  · have HV2 := Lib.hid (HDN.out (.inl h1))
    go_enter Try.func58, Try.ntmps58
    go_wp2_with fail
    go_ret
    exact ⟨by rw [HV2.out]; first | rfl | simp, E1.out⟩
  by_cases h2 : a = x
  · have HV2 := Lib.hid (HDN.out (.inr (.inl h2)))
    go_enter Try.func58, Try.ntmps58
    go_wp2_with fail
    go_ret
    exact ⟨by rw [HV2.out]; first | rfl | simp, E1.out⟩
  by_cases h3 : a = y
  · have HV2 := Lib.hid (HDN.out (.inr (.inr (.inl h3))))
    go_enter Try.func58, Try.ntmps58
    go_wp2_with fail
    go_ret
    exact ⟨by rw [HV2.out]; first | rfl | simp, E1.out⟩
  by_cases h4 : b = x
  · have HV2 := Lib.hid (HDN.out (.inr (.inr (.inr (.inl h4)))))
    go_enter Try.func58, Try.ntmps58
    go_wp2_with fail
    go_ret
    exact ⟨by rw [HV2.out]; first | rfl | simp, E1.out⟩
  by_cases h5 : b = y
  · have HV2 := Lib.hid (HDN.out (.inr (.inr (.inr (.inr (.inl h5))))))
    go_enter Try.func58, Try.ntmps58
    go_wp2_with fail
    go_ret
    exact ⟨by rw [HV2.out]; first | rfl | simp, E1.out⟩
  by_cases h6 : x = y
  · have HV2 := Lib.hid (HDN.out (.inr (.inr (.inr (.inr (.inr h6))))))
    go_enter Try.func58, Try.ntmps58
    go_wp2_with fail
    go_ret
    exact ⟨by rw [HV2.out]; first | rfl | simp, E1.out⟩
  have HDF := Lib.hid (dif_yes h1 h2 h3 h4 h5 h6)
  have E3 := Lib.hid E1.out
  have b3 := Lib.hid b1.out
  have HC3 := Lib.hid HC1.out
  go_enter Try.func58, Try.ntmps58
  go_wp2_with fail
  · exfalso
    rename_i hbad
    simp [h1, h2, h3, h4, h5, h6] at hbad
  refine (iCr _ _ _ _ _ _ P _ _ HN.out HC3.out hl).mono ?_
  rintro e w4 ⟨rfl, h4⟩
  have E4 := Lib.hid (Ext.trans E3.out h4)
  have b4 := Lib.hid (ext_blk h4 b3.out)
  have HC4 := Lib.hid (HC3.out.ext h4)
  clear h4 E3 b3 HC3
  clear p0 p1 p2 x2 x3
  cases c1 : crB P rg a x with
  | false =>
    have HV2 := Lib.hid (show V = false by rw [← HV.out, ex_eq, c1]; simp)
    go_wp2_with fail
    go_ret
    exact ⟨by rw [HV2.out]; first | rfl | simp, E4.out⟩
  | true =>
  have C1 := Lib.hid c1
  clear c1
  obtain ⟨x1, x2, x3⟩ := blk_cells (b4.out)
  have p0 := x1 0
  have p1 := x1 1
  have p2 := x1 2
  simp at p0 p1 p2
  clear x1
  go_wp2_with fail
  refine (iCr _ _ _ _ _ _ P _ _ HN.out HC4.out hl).mono ?_
  rintro e w5 ⟨rfl, h5⟩
  have E5 := Lib.hid (Ext.trans E4.out h5)
  have b5 := Lib.hid (ext_blk h5 b4.out)
  have HC5 := Lib.hid (HC4.out.ext h5)
  clear h5 E4 b4 HC4
  clear p0 p1 p2 x2 x3
  cases c2 : crB P rg b y with
  | false =>
    have HV2 := Lib.hid (show V = false by rw [← HV.out, ex_eq, c2]; simp)
    go_wp2_with fail
    go_ret
    exact ⟨by rw [HV2.out]; first | rfl | simp, E5.out⟩
  | true =>
  have C2 := Lib.hid c2
  clear c2
  obtain ⟨x1, x2, x3⟩ := blk_cells (b5.out)
  have p0 := x1 0
  have p1 := x1 1
  have p2 := x1 2
  simp at p0 p1 p2
  clear x1
  go_wp2_with fail
  refine (iCs _ _ _ _ _ _ P _ _ HN.out HC5.out hl).mono ?_
  rintro e w6 ⟨rfl, h6⟩
  have E6 := Lib.hid (Ext.trans E5.out h6)
  have b6 := Lib.hid (ext_blk h6 b5.out)
  have HC6 := Lib.hid (HC5.out.ext h6)
  clear h6 E5 b5 HC5
  clear p0 p1 p2 x2 x3
  cases c3 : crB P sn a b with
  | false =>
    have HV2 := Lib.hid (show V = false by rw [← HV.out, ex_eq, c3]; simp)
    go_wp2_with fail
    go_ret
    exact ⟨by rw [HV2.out]; first | rfl | simp, E6.out⟩
  | true =>
  have C3 := Lib.hid c3
  clear c3
  obtain ⟨x1, x2, x3⟩ := blk_cells (b6.out)
  have p0 := x1 0
  have p1 := x1 1
  have p2 := x1 2
  simp at p0 p1 p2
  clear x1
  have e7 := Ext.alloc_ w6 (.cells #[.int .i64 a, .int .i64 b] 3)
  have HL := Lib.hid (cel_lit w6 3 #[.int .i64 a, .int .i64 b])
  have HC6' := Lib.hid (HC6.out.ext e7)
  have E6' := Lib.hid (Ext.trans E6.out e7)
  have b6' := Lib.hid (ext_blk e7 b6.out)
  clear e7
  go_wp2_with fail
  refine (iRcv (ns := 2) _ _ _ _ _ _ _ _ _ P [a, b] HN.out HC6'.out hl rfl HL.out (by omega)).mono ?_
  rintro e w7 ⟨rfl, h7⟩
  have E7 := Lib.hid (Ext.trans E6'.out h7)
  have b7 := Lib.hid (ext_blk h7 b6'.out)
  have HC7 := Lib.hid (HC6'.out.ext h7)
  clear p0 p1 p2 x2 x3
  obtain ⟨v1, hv1⟩ : ∃ v, rfV P rg sn [a, b] x = v := ⟨_, rfl⟩
  rw [hv1]
  have HV1 := Lib.hid hv1
  clear hv1 h7 E6 b6 HC6 E6' b6' HC6' HL
  by_cases c4 : v1 = a
  · subst c4
    obtain ⟨x1, x2, x3⟩ := blk_cells (b7.out)
    have p0 := x1 0
    have p1 := x1 1
    have p2 := x1 2
    simp at p0 p1 p2
    clear x1
    have e8 := Ext.alloc_ w7 (.cells #[.int .i64 v1, .int .i64 b] 3)
    have HL := Lib.hid (cel_lit w7 3 #[.int .i64 v1, .int .i64 b])
    have HC7' := Lib.hid (HC7.out.ext e8)
    have E7' := Lib.hid (Ext.trans E7.out e8)
    clear e8
    go_wp2_with fail
    refine (iRcv (ns := 2) _ _ _ _ _ _ _ _ _ P [v1, b] HN.out HC7'.out hl rfl HL.out (by omega)).mono ?_
    rintro e w8 ⟨rfl, h8⟩
    have E8 := Lib.hid (Ext.trans E7'.out h8)
    obtain ⟨v2, hv2⟩ : ∃ v, rfV P rg sn [v1, b] y = v := ⟨_, rfl⟩
    rw [hv2]
    have HV22 := Lib.hid (show V = (v2 == b) by rw [← HV.out, ex_eq, HDF.out, C1.out, C2.out, C3.out, HV1.out, hv2]; simp; rfl)
    clear hv2 h8
    go_wp2_with fail
    go_ret
    exact ⟨by rw [HV22.out]; first | rfl | simp, E8.out⟩
  · have HV2 := Lib.hid (show V = false by rw [← HV.out, ex_eq, HV1.out]; simp [c4])
    go_wp2_with fail
    go_ret
    exact ⟨by rw [HV2.out]; first | rfl | simp, E7.out⟩
end Go.Proofs.Ytkmklafjcjkpdaa
