/- Draws for the law on capture; the law's own 'contains'. -/
import Derived.Test.YtkmklafjcjkpdaaCaE
namespace Go.Proofs.Ytkmklafjcjkpdaa
open Go.RowKit
set_option linter.unusedVariables false
set_option linter.unusedSimpArgs false
theorem OwnI.cel {w : World} {B n c : Nat} {A : Option Addr} {P : List Int} (h : OwnI w B (.slice A n c) P) : Cel w A (P.map (Value.int .i64)) := by
  obtain ⟨A', c', h1, h2, -⟩ := h.val
  injection h1 with q1 q2 q3
  subst q1
  exact h2
/-- A block that holds no bytes is written. -/
theorem Cur.box {w : World} {b s : Nat} {cs : Array Value} {T : TypeId} {p : Addr} (h : Cur w b) (hb : w.heap[s]? = some (.cells cs T (0, 0))) (hne : s ≠ b) (hcs : ∀ (i : Nat) (u : Int), cs[i]? ≠ some (.int .u8 u)) (hp : p.block = s) (u : Value) : Cur (w.setCell p u) b := by
  obtain ⟨A, n, c, p', s', l, h1, h2, h3, h4, h5, h6, h7⟩ := h
  refine ⟨A, n, c, p', s', l, by rw [Below.heap_setCell _ _ _ _ (by omega)]; exact h1, h2, h3.chg (S := fun y => y = s) (Chg.set (Chg.refl w _) hp u) (fun h0 b' o hA hx => ?_), h4, h5, h6, h7⟩
  obtain ⟨b2, off, e1, -, e2⟩ := h3.at_ (k := 0) (List.length_pos_iff.2 h0)
  rw [e1] at hA
  injection hA with hA
  injection hA with hA
  subst hA hx
  obtain ⟨q1, -, -⟩ := blk_cells hb
  rw [q1] at e2
  exact hcs _ _ e2
set_option maxHeartbeats 1000000 in
theorem sOne13 (w : World) (A0 : Option Addr) (n0 c0 : Nat) (l0 : List Int) (hn : l0.length = n0) (hr : RB w A0 c0 l0) (hb : ∀ x ∈ l0, 0 ≤ x ∧ x ≤ 255) (hl : n0 ≤ 1048576) :
    Calls Try.prog 117 #[.slice A0 n0 c0] w fun e w' => ∃ (b : Nat) (A : Option Addr) (c : Nat) (P : List Int) (rg sn : Int), e = .returned (.tuple #[.pointer (some ⟨b, 0, none⟩), .agg #[.slice A P.length c, .int .i64 rg, .int .i64 sn]]) ∧ w.heap.size ≤ b ∧ P.length ≤ 17 ∧ OwnI w' (b + 1) (.slice A P.length c) P ∧ Cur w' b ∧ Ext w w' := by
  have eR := Ext.alloc_ w (.cells #[.slice none 0 0, .int .i64 0, .int .i64 0] 74)
  have R1 := Lib.hid (hr.ext eR)
  have ER := Lib.hid eR
  have bR := Lib.hid (new_blk1 w #[.slice none 0 0, .int .i64 0, .int .i64 0] 74)
  clear eR hr
  go_enter Try.func117, Try.ntmps117
  go_wp2_with fail
  refine (sNew _ _ _ _ l0 hn R1.out hb hl).mono ?_
  rintro e w1 ⟨b, rfl, h1, h2, h3⟩
  have E1 := Lib.hid (Ext.trans ER.out h1)
  have C1 := Lib.hid h3
  have bR1 := Lib.hid (ext_blk h1 bR.out)
  have hbw : w.heap.size + 1 ≤ b := by simpa using h2
  have hz1 : b < w1.heap.size := h3.lt
  clear h1 h2 h3 hn hb R1 ER bR
  go_wp2_with fail
  refine (sAny13 _ _ C1.out).mono ?_
  rintro e w2 ⟨A, c, P, rg, sn, rfl, hP, hO, hD⟩
  have E2 := Lib.hid (hD.1.ext E1.out (fun x hx => by omega))
  have C2 := Lib.hid hD.2
  have bR2 := Lib.hid (hD.blk bR1.out (by omega))
  have HO := Lib.hid (hO.base (B' := b + 1) (by omega))
  obtain ⟨N, hN⟩ : ∃ N, N = P.length := ⟨_, rfl⟩
  have HN := Lib.hid hN
  rw [← hN] at HO hP ⊢
  clear hO hD hN E1 C1 bR1
  obtain ⟨y1, y2, y3⟩ := blk_cells (bR2.out)
  have q0 := y1 0
  have q1 := y1 1
  have q2 := y1 2
  simp at q0 q1 q2
  clear y1
  go_wp2_with fail
  refine bodyPost_ret (v := .tuple #[.pointer (some ⟨b, 0, none⟩), .agg #[.slice A N c, .int .i64 rg, .int .i64 sn]]) (by clear E2 C2 bR2 HO HN; simp [results, Try.results117, go_sem, *]) rfl ⟨b, A, c, P, rg, sn, by rw [HN.out], by omega, by rw [← HN.out]; exact hP, ?_, ?_, ?_⟩
  · rw [← HN.out]
    iterate 3 refine OwnI.setb ?_ (by simp <;> omega) _
    exact HO.out
  · have h1 := Cur.box (p := ⟨w.heap.size, 0, none⟩) C2.out bR2.out (by omega) (by intro i u h; rcases i with _ | _ | _ | i <;> simp at h) rfl (.slice A N c)
    have b1 := blk_set bR2.out 0 (.slice A N c)
    simp only [List.setIfInBounds_toArray, List.set_cons_zero, List.set_cons_succ] at b1
    have h2 := Cur.box (p := ⟨w.heap.size, 1, none⟩) h1 b1 (by omega) (by intro i u h; rcases i with _ | _ | _ | i <;> simp at h) rfl (.int .i64 rg)
    have b2 := blk_set b1 1 (.int .i64 rg)
    simp only [List.setIfInBounds_toArray, List.set_cons_zero, List.set_cons_succ] at b2
    exact Cur.box (p := ⟨w.heap.size, 2, none⟩) h2 b2 (by omega) (by intro i u h; rcases i with _ | _ | _ | i <;> simp at h) rfl (.int .i64 sn)
  · iterate 3 refine Ext.setCell_ ?_ (by simp) _
    exact E2.out
set_option maxHeartbeats 2000000 in
theorem sDrawPl (w : World) (A0 : Option Addr) (n0 c0 : Nat) (l0 : List Int) (hn : l0.length = n0) (hr : RB w A0 c0 l0) (hb : ∀ x ∈ l0, 0 ≤ x ∧ x ≤ 255) (hl : n0 ≤ 1048576) :
    Calls Try.prog 57 #[.slice A0 n0 c0] w fun e w' => ∃ (A : Option Addr) (c : Nat) (P : List Int) (rg sn x y z : Int), e = .returned (.tuple #[.agg #[.slice A P.length c, .int .i64 rg, .int .i64 sn], .int .i64 x, .int .i64 y, .int .i64 z]) ∧ P.length ≤ 6 ∧ rg ≤ sn ∧ (0 ≤ x ∧ x < P.length) ∧ (0 ≤ y ∧ y < P.length) ∧ (0 ≤ z ∧ z < P.length) ∧ Cel w' A (P.map (Value.int .i64)) ∧ Ext w w' := by
  have eR := Ext.alloc_ w (.cells #[.slice none 0 0, .int .i64 0, .int .i64 0] 74)
  have R1 := Lib.hid (hr.ext eR)
  have ER := Lib.hid eR
  have bR := Lib.hid (new_blk1 w #[.slice none 0 0, .int .i64 0, .int .i64 0] 74)
  clear eR hr
  go_enter Try.func57, Try.ntmps57
  go_wp2_with fail
  refine (sNew _ _ _ _ l0 hn R1.out hb hl).mono ?_
  rintro e w1 ⟨b, rfl, h1, h2, h3⟩
  have E1 := Lib.hid (Ext.trans ER.out h1)
  have C1 := Lib.hid h3
  have bR1 := Lib.hid (ext_blk h1 bR.out)
  have hbw : w.heap.size + 1 ≤ b := by simpa using h2
  have hz1 : b < w1.heap.size := h3.lt
  clear h1 h2 h3 hn hb R1 ER bR
  go_wp2_with fail
  refine (sPlace _ _ C1.out).mono ?_
  rintro e w2 ⟨A, c, P, rg, sn, rfl, hP, hrs, hO, hD⟩
  obtain ⟨N, hN⟩ : ∃ N, N = P.length := ⟨_, rfl⟩
  have HN := Lib.hid hN
  rw [← hN] at hO hP ⊢
  have e2 := Ext.alloc_ w2 (.cells #[.slice A N c, .int .i64 rg, .int .i64 sn] 74)
  have D2 := Lib.hid (hD.ext e2)
  have bR2 := Lib.hid (ext_blk e2 (hD.blk bR1.out (by omega)))
  have bP2 := Lib.hid (new_blk1 w2 #[.slice A N c, .int .i64 rg, .int .i64 sn] 74)
  have O2 := Lib.hid (hO.ext e2)
  have hg2 : w1.heap.size ≤ w2.heap.size := hD.1.size
  have hN0 : (0 : Int) < (N : Int) := by omega
  clear hD hO e2 bR1 hN C1
  obtain ⟨x1, x2, x3⟩ := blk_cells (bP2.out)
  have p0 := x1 0
  have p1 := x1 1
  have p2 := x1 2
  simp at p0 p1 p2
  clear x1
  go_wp2_with fail
  generalize World.alloc w2 _ = w3 at *
  generalize w2.heap.size = g at *
  clear p0 p1 p2 x2 x3
  refine (sBelow _ _ _ D2.out.2 (by omega)).mono ?_
  rintro e w4 ⟨x, rfl, hx, hD⟩
  have D4 := Lib.hid (D2.out.trans hD)
  have bP4 := Lib.hid (hD.blk bP2.out (by omega))
  have bR4 := Lib.hid (hD.blk bR2.out (by omega))
  have O4 := Lib.hid (O2.out.chg hD.1 (fun y hy h => by omega))
  clear hD D2 bP2 bR2 O2
  go_wp2_with fail
  refine (sBelow _ _ _ D4.out.2 (by omega)).mono ?_
  rintro e w5 ⟨y, rfl, hy, hD⟩
  have D5 := Lib.hid (D4.out.trans hD)
  have bP5 := Lib.hid (hD.blk bP4.out (by omega))
  have bR5 := Lib.hid (hD.blk bR4.out (by omega))
  have O5 := Lib.hid (O4.out.chg hD.1 (fun y hy h => by omega))
  clear hD D4 bP4 bR4 O4
  obtain ⟨x1, x2, x3⟩ := blk_cells (bP5.out)
  have p0 := x1 0
  have p1 := x1 1
  have p2 := x1 2
  simp at p0 p1 p2
  clear x1
  obtain ⟨y1, y2, y3⟩ := blk_cells (bR5.out)
  have q0 := y1 0
  have q1 := y1 1
  have q2 := y1 2
  simp at q0 q1 q2
  clear y1
  have hsB : w.heap.size < w1.heap.size := by omega
  go_upto_region 6 with fail
  go_region_with (go_at_call 118; refine (sBelow _ _ _ (D5.out.2.ext (by repeat (first | exact Ext.refl _ | refine Ext.drew ?_))) (by omega)).mono ?_; rintro e w6 ⟨z, rfl, hz, hD⟩; have X6 := (Drawn.of_ext D5.out.2 (by repeat (first | exact Ext.refl _ | refine Ext.drew ?_))).trans hD; have D6 := Lib.hid (D5.out.trans X6); have hB := X6.blk bP5.out (by omega); have hR := X6.blk bR5.out (by omega); have O6 := Lib.hid (O5.out.chg X6.1 (fun y hy h => by omega)); clear hD X6; obtain ⟨s1, s2, s3⟩ := blk_cells hB; have i0 := s1 0; have i1 := s1 1; have i2 := s1 2; simp at i0 i1 i2; clear s1 hB; obtain ⟨t1, t2, t3⟩ := blk_cells hR; have j0 := t1 0; have j1 := t1 1; have j2 := t1 2; simp at j0 j1 j2; clear t1 hR)
  all_goals go_wp2_with fail
  all_goals refine bodyPost_ret (v := .tuple #[.agg #[.slice A N c, .int .i64 rg, .int .i64 sn], .int .i64 x, .int .i64 y, .int .i64 z]) (by clear E1 D5 bP5 bR5 O5 D6 O6 HN; simp [results, Try.results57, go_sem, *]) rfl ⟨A, c, P, rg, sn, x, y, z, by rw [HN.out], by have := HN.out; omega, hrs.2.1, by have := HN.out; omega, by have := HN.out; omega, by have := HN.out; omega, ?_, ?_⟩
  all_goals first
    | exact OwnI.cel (B := w1.heap.size) (n := N) (c := c) (OwnI.setb (OwnI.setb (OwnI.setb O6.out hsB _) hsB _) hsB _)
    | exact Ext.setCell_ (Ext.setCell_ (Ext.setCell_ (D6.out.1.ext E1.out (fun x hx => by omega)) (Nat.le_refl _) _) (Nat.le_refl _) _) (Nat.le_refl _) _
set_option maxHeartbeats 2000000 in
theorem sDrawRcv (w : World) (A0 : Option Addr) (n0 c0 : Nat) (l0 : List Int) (hn : l0.length = n0) (hr : RB w A0 c0 l0) (hb : ∀ x ∈ l0, 0 ≤ x ∧ x ≤ 255) (hl : n0 ≤ 1048576) :
    Calls Try.prog 50 #[.slice A0 n0 c0] w fun e w' => ∃ (A : Option Addr) (c : Nat) (P : List Int) (rg sn : Int) (As : Option Addr) (cs : Nat) (L : List Int) (r : Int), e = .returned (.tuple #[.agg #[.slice A P.length c, .int .i64 rg, .int .i64 sn], .slice As L.length cs, .int .i64 r]) ∧ P.length ≤ 17 ∧ L.length ≤ 3 ∧ Cel w' A (P.map (Value.int .i64)) ∧ Cel w' As (L.map (Value.int .i64)) ∧ Ext w w' := by
  have eR := Ext.alloc_ w (.cells #[.slice none 0 0, .int .i64 0, .int .i64 0] 74)
  have R1 := Lib.hid (hr.ext eR)
  have ER := Lib.hid eR
  have bR := Lib.hid (new_blk1 w #[.slice none 0 0, .int .i64 0, .int .i64 0] 74)
  clear eR hr
  go_enter Try.func50, Try.ntmps50
  go_wp2_with fail
  refine (sOne13 _ _ _ _ l0 hn R1.out hb hl).mono ?_
  rintro e w1 ⟨b, A, c, P, rg, sn, rfl, hbs, hP, hO, hC, hE⟩
  obtain ⟨N, hN⟩ : ∃ N, N = P.length := ⟨_, rfl⟩
  have HN := Lib.hid hN
  rw [← hN] at hO hP ⊢
  have E1 := Lib.hid (Ext.trans ER.out hE)
  have hbw : w.heap.size + 1 ≤ b := by simpa using hbs
  have e2 := Ext.trans (Ext.alloc_ w1 (.cells #[.slice A N c, .int .i64 rg, .int .i64 sn] 74)) (Ext.alloc_ _ (.cells #[] 3))
  have D2 := Lib.hid (Drawn.of_ext hC e2)
  have hzb : b < w1.heap.size := hC.lt
  have bR2 := Lib.hid (ext_blk (Ext.trans hE e2) bR.out)
  have bP2 := Lib.hid (ext_blk (Ext.alloc_ _ (.cells #[] 3)) (new_blk1 w1 #[.slice A N c, .int .i64 rg, .int .i64 sn] 74))
  have O2 := Lib.hid (OwnJ.of hO)
  have hO3 := OwnI.lit (w := w1.alloc (.cells #[.slice A N c, .int .i64 rg, .int .i64 sn] 74)) (B := w1.heap.size + 1) [] (by simp) (by simp)
  simp only [World.size_alloc, List.map_nil, List.length_nil] at hO3
  have O3 := Lib.hid hO3
  have J2 := Lib.hid (O2.out.chg (Chg.of_ext (fun y => y = b) e2) (fun y h1 h2 h3 => by omega))
  clear hn hb R1 ER bR hO hC hE e2 O2 hO3 hN hbs
  go_wp2_with fail
  generalize World.alloc (World.alloc w1 _) _ = w2 at *
  refine (sBelow _ _ _ D2.out.2 (by decide)).mono ?_
  rintro e w3 ⟨it, rfl, hit, hD⟩
  have D3 := Lib.hid (D2.out.trans hD)
  have bP3 := Lib.hid (hD.blk bP2.out (by omega))
  have bR3 := Lib.hid (hD.blk bR2.out (by omega))
  have J3 := Lib.hid (J2.out.chg hD.1 (fun y h1 h2 h3 => by omega))
  have O4 := Lib.hid (O3.out.chg hD.1 (fun y hy h => by omega))
  clear hD D2 bP2 bR2 J2 O3
  go_wp2_with fail
  go_loopw [7, 8] (fun v i wr => ∃ (iv : Int) (L : List Int), i = .int .i64 iv ∧ (0 ≤ iv ∧ iv + L.length ≤ 3) ∧ Hid (OwnI wr (w1.heap.size + 1) v L) ∧ Hid (OwnJ wr (b + 1) w1.heap.size (.slice A N c) P) ∧ Hid (wr.heap[w1.heap.size]? = some (.cells #[.slice A N c, .int .i64 rg, .int .i64 sn] 74 (0, 0))) ∧ Hid (wr.heap[w.heap.size]? = some (.cells #[.slice none 0 0, .int .i64 0, .int .i64 0] 74 (0, 0))) ∧ Hid (Drawn w1 wr b)) (fun _ i _ => (intOf i).toNat)
  case atStart => exact ⟨it, [], rfl, ⟨by omega, by simp; omega⟩, O4, J3, bP3, bR3, D3⟩
  case round =>
    clear D3 bP3 bR3 J3 O4
    obtain ⟨iv, L, rfl, ⟨hi0, hi3⟩, HO, HJ, HP, HR, HD⟩ := hrel
    obtain ⟨As, cs, rfl, -, -⟩ := HO.out.val
    by_cases h0 : 0 < iv
    · have hwr : IntKind.i64.wrap (iv - 1) = iv - 1 := IntWalk.i64_in _ (by omega)
      go_wp2_with fail
      refine (sBelow _ _ _ HD.out.2 (by decide)).mono ?_
      rintro e w5 ⟨k, rfl, hk, hD⟩
      have hwk : IntKind.i64.wrap (k - 1) = k - 1 := IntWalk.i64_in _ (by omega)
      have e6 := Ext.alloc_ w5 (.cells #[.int .i64 (k - 1)] 3)
      have D5 := Lib.hid ((HD.out.trans hD).ext e6)
      have O5 := Lib.hid ((HO.out.chg hD.1 (fun y hy h => by omega)).ext e6)
      have J5 := Lib.hid (HJ.out.chg (hD.1.trans (Chg.of_ext _ e6)) (fun y h1 h2 h3 => by omega))
      have bP5 := Lib.hid (ext_blk e6 (hD.blk HP.out (by omega)))
      have bR5 := Lib.hid (ext_blk e6 (hD.blk HR.out (by omega)))
      have hL := Lib.hid (cel_lit w5 3 #[.int .i64 (k - 1)])
      have hz5 : w1.heap.size + 1 ≤ w5.heap.size := by have := heap_lt HP.out; have := hD.1.size; omega
      clear hD e6 HO HJ HP HR HD
      go_wp2_with (at_builtin; refine wpApp (.tmp 21) (.tmp 25) elInt rfl rfl (w1.heap.size + 1) _ _ _ rfl O5.out _ _ _ _ rfl hL.out (by simp) (fun h => by simp at h) (by intro u hu; simp at hu; subst hu; rfl) (by unfold maxLen; omega) (by omega) (by simp <;> omega) ?_)
      intro v1 w9 q1 q2 _
      have D9 := Lib.hid (D5.out.grownI q2 O5.out (by omega) (by omega))
      have J9 := Lib.hid (J5.out.chg ((Chg.grown q2).mono (fun y hy => (World.ownsRow.lt O5.out y hy.symm).1) : Chg _ w9 (fun y => w1.heap.size + 1 ≤ y)) (fun y h1 h2 h3 => by omega))
      have bP9 := Lib.hid (grown_blk q2 O5.out bP5.out (by omega))
      have bR9 := Lib.hid (grown_blk q2 O5.out bR5.out (by omega))
      have O9 := Lib.hid (OwnI.app q1)
      clear q1 q2 D5 O5 J5 bP5 bR5 hL
      go_wp2_with fail
      go_roundw
      case rel => exact ⟨iv - 1, L ++ [k - 1], rfl, ⟨by omega, by simp; omega⟩, O9, J9, bP9, bR9, D9⟩
      case measure => simp [intOf]; omega
    · obtain ⟨M, hM⟩ : ∃ M, M = L.length := ⟨_, rfl⟩
      have HM := Lib.hid hM
      rw [← hM] at HO hi3 ⊢
      clear hM
      obtain ⟨x1, x2, x3⟩ := blk_cells (HP.out)
      have p0 := x1 0
      have p1 := x1 1
      have p2 := x1 2
      simp at p0 p1 p2
      clear x1
      obtain ⟨y1, y2, y3⟩ := blk_cells (HR.out)
      have q0 := y1 0
      have q1 := y1 1
      have q2 := y1 2
      simp at q0 q1 q2
      clear y1
      have hsB : w.heap.size < b + 1 := by omega
      have hsC : w.heap.size < w1.heap.size + 1 := by omega
      go_upto_region 7 with fail
      go_region_with (go_at_call 118; refine (sBelow _ _ _ (HD.out.2.ext (by repeat (first | exact Ext.refl _ | refine Ext.drew ?_))) (by decide)).mono ?_; rintro e w6 ⟨z, rfl, hz, hD⟩; have X6 := (Drawn.of_ext HD.out.2 (by repeat (first | exact Ext.refl _ | refine Ext.drew ?_))).trans hD; have D6 := Lib.hid (HD.out.trans X6); have hB := X6.blk HP.out (by omega); have hR := X6.blk HR.out (by omega); have O6 := Lib.hid (HO.out.chg X6.1 (fun y hy h => by omega)); have J6 := Lib.hid (HJ.out.chg X6.1 (fun y h1 h2 h3 => by omega)); clear hD X6; obtain ⟨s1, s2, s3⟩ := blk_cells hB; have i0 := s1 0; have i1 := s1 1; have i2 := s1 2; simp at i0 i1 i2; clear s1 hB; obtain ⟨t1, t2, t3⟩ := blk_cells hR; have j0 := t1 0; have j1 := t1 1; have j2 := t1 2; simp at j0 j1 j2; clear t1 hR)
      all_goals go_wp2_with fail
      all_goals refine bodyPost_ret (v := .tuple #[.agg #[.slice A N c, .int .i64 rg, .int .i64 sn], .slice As M cs, .int .i64 z]) (by clear E1 HO HJ HP HR HD D6 O6 J6 HN HM; simp [results, Try.results50, go_sem, *]) rfl ⟨A, c, P, rg, sn, As, cs, L, z, by rw [HN.out, HM.out], by have := HN.out; omega, by have := HM.out; omega, ?_, ?_, ?_⟩
      all_goals first
        | exact OwnI.cel (B := b + 1) (n := N) (c := c) (OwnI.setb (OwnI.setb (OwnI.setb J6.out.1 hsB _) hsB _) hsB _)
        | exact OwnI.cel (B := w1.heap.size + 1) (n := M) (c := cs) (OwnI.setb (OwnI.setb (OwnI.setb O6.out hsC _) hsC _) hsC _)
        | exact Ext.setCell_ (Ext.setCell_ (Ext.setCell_ (D6.out.1.ext E1.out (fun x hx => by omega)) (Nat.le_refl _) _) (Nat.le_refl _) _) (Nat.le_refl _) _
theorem has_ (w : World) (A : Option Addr) (n c : Nat) (L : List Int) (x : Int) (hn : L.length = n) (hC : Cel w A (L.map (Value.int .i64))) (hl : n ≤ 1048576) :
    Calls Try.prog 53 #[.slice A n c, .int .i64 x] w fun e w' => e = .returned (.bool (decide (x ∈ L))) ∧ Ext w w' := by
  have HC := Lib.hid hC
  have HN := Lib.hid hn
  obtain ⟨V, hV⟩ : ∃ V, decide (x ∈ L) = V := ⟨_, rfl⟩
  rw [hV]
  have HV := Lib.hid hV
  clear hC hn hV
  go_enter Try.func53, Try.ntmps53
  go_wp2_with fail
  go_loopw [5] (fun i wr => ∃ k : Nat, k ≤ n ∧ i = .int .i64 k ∧ Hid (x ∉ L.take k) ∧ Hid (Ext w wr)) (fun i _ => n - (intOf i).toNat)
  case atStart => exact ⟨0, Nat.zero_le _, rfl, Lib.hid (by simp), Lib.hid (Ext.refl _)⟩
  case round =>
    obtain ⟨k, hk, rfl, hNI, hE⟩ := hrel
    by_cases hlt : k < n
    · have hkl : k < L.length := by rw [HN.out]; exact hlt
      obtain ⟨bs, os, rfl, h5, h6⟩ := (HC.out.ext hE.out).map_at (List.ne_nil_of_length_pos (by omega))
      have hck := h6 k hkl
      have hlt' : (k : Int) < (n : Int) := by omega
      have hk0 : (0 : Int) ≤ (k : Int) := by omega
      have hmem := Lib.hid (List.getElem_mem hkl)
      have hnt := Lib.hid (show ¬ L[k] = x → x ∉ L.take (k + 1) from fun hne => by
        rw [List.take_succ_eq_append_getElem hkl]
        simp only [List.mem_append, List.mem_singleton, not_or]
        exact ⟨hNI.out, fun h => hne h.symm⟩)
      generalize L[k] = s at *
      clear h6
      by_cases hsx : s = x
      · have HV2 := Lib.hid (show V = true by rw [← HV.out]; exact decide_eq_true (hsx ▸ hmem.out))
        go_wp2_with fail
        go_ret
        exact ⟨by rw [HV2.out]; rfl, hE.out⟩
      · have hn2 := Lib.hid (hnt.out hsx)
        go_wp2_with fail
        go_roundw
        case rel => exact ⟨k + 1, by omega, by go_num, hn2, hE⟩
        case measure => simp [intOf]; omega
    · have hkn : k = n := by omega
      have hlt' : ¬ (k : Int) < (n : Int) := by omega
      have HV2 := Lib.hid (show V = false by
        rw [← HV.out]
        have h := hNI.out
        rw [hkn, ← HN.out, List.take_length] at h
        exact decide_eq_false h)
      clear hkn
      go_wp2_with fail
      go_ret
      exact ⟨by rw [HV2.out]; rfl, hE.out⟩
end Go.Proofs.Ytkmklafjcjkpdaa
