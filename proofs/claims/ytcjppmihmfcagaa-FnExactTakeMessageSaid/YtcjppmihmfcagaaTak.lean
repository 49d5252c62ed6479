/- A message taken out of a queue: the reference's side. -/
import Derived.Test.YtcjppmihmfcagaaEnq
import Derived.Test.YtcjppmihmfcagaaNb
namespace Go.Proofs.Ytcjppmihmfcagaa
open Go.RowKit
set_option linter.unusedVariables false
set_option linter.unusedSimpArgs false

def tkL (l : List Msg) (i : Int) : List Msg := if 0 ≤ i ∧ i < l.length then l.eraseIdx i.toNat else l
def tkM (l : List Msg) (i : Int) : Msg := if 0 ≤ i then l[i.toNat]?.getD ⟨0, 0, 0, []⟩ else ⟨0, 0, 0, []⟩
def tkB (l : List Msg) (i : Int) : Bool := decide (0 ≤ i ∧ i < l.length)
theorem tkM_get {l : List Msg} {k : Nat} (h : k < l.length) : tkM l k = l[k] := by simp [tkM, h]
theorem tkM_not {l : List Msg} {i : Int} (h : ¬ (0 ≤ i ∧ i < l.length)) : tkM l i = ⟨0, 0, 0, []⟩ := by
  unfold tkM
  split
  · rw [List.getElem?_eq_none (by omega)]
    rfl
  · rfl
theorem AppR.own' {α : Type} {K : Kind α} {T : TypeId} {w : World} {B n c : Nat} {X : Nat → Prop} {A : Option Addr} {l : List α} (h : AppR K T w B X (.slice A n c) l) : Own K w B w.heap.size A l := by
  obtain ⟨A3, c3, e3, -, -, hO, -⟩ := h.own
  injection e3 with e3
  subst e3
  exact hO
set_option maxRecDepth 8000 in
set_option maxHeartbeats 4000000 in
theorem sTake (w : World) (A : Option Addr) (n c : Nat) (d i : Int) (l : List Msg) (hn : l.length = n) (hM : Els w A 4 (kE kMsg) l) (hb : ∀ m ∈ l, m.body.length ≤ 1048576) (hl : n ≤ 1048576) :
    Calls Try.prog 49 #[.agg #[.slice A n c, .int .i64 d], .int .i64 i] w fun e w' => ∃ A' c' g Am cm, e = .returned (.tuple #[.agg #[.slice A' (tkL l i).length c', .int .i64 d], .agg #[.int .i64 (tkM l i).to, .int .i64 (tkM l i).cat, .int .i64 (tkM l i).dl, .slice Am (tkM l i).body.length cm], .bool (tkB l i)]) ∧ Ext w w' ∧ Own kMsg w' w.heap.size w'.heap.size A' (tkL l i) ∧ NewB w' w.heap.size g Am cm (tkM l i).body := by
  have E0 := Lib.hid (Ext.trans (Ext.trans (Ext.alloc_ w (.cells #[.slice A n c, .int .i64 d] 54)) (Ext.alloc_ _ (.cells #[.slice none 0 0, .int .i64 0] 54))) (Ext.alloc_ _ (.cells #[.int .i64 0, .int .i64 0, .int .i64 0, .slice none 0 0] 71)))
  have b1 := Lib.hid (ext_blk (Ext.trans (Ext.alloc_ _ (.cells #[.slice none 0 0, .int .i64 0] 54)) (Ext.alloc_ _ (.cells #[.int .i64 0, .int .i64 0, .int .i64 0, .slice none 0 0] 71))) (new_blk1 w #[.slice A n c, .int .i64 d] 54))
  have b2 := Lib.hid (ext_blk (Ext.alloc_ _ (.cells #[.int .i64 0, .int .i64 0, .int .i64 0, .slice none 0 0] 71)) (new_blk2 w (.cells #[.slice A n c, .int .i64 d] 54) #[.slice none 0 0, .int .i64 0] 54))
  have b3 := Lib.hid (new_blk3 w (.cells #[.slice A n c, .int .i64 d] 54) (.cells #[.slice none 0 0, .int .i64 0] 54) #[.int .i64 0, .int .i64 0, .int .i64 0, .slice none 0 0] 71)
  have N1 := Lib.hid hn
  have M3 := Lib.hid (els_up hM E0.out)
  have D1 := Lib.hid hb
  have K1 := hl
  clear hn hM hb hl
  go_enter Try.func49, Try.ntmps49
  go_wp2_with fail
  refine (sCopyQ _ _ _ _ _ l N1.out M3.out D1.out K1).mono ?_
  rintro e w1 ⟨A1, c1, rfl, h1, hA1⟩
  have F1 := Lib.hid ((hA1.addX.ext (Ext.alloc_ w1 (.cells #[.slice A1 n c1, .int .i64 d] 54))).weak (B' := w.heap.size + 1 + 1 + 1) (X' := fun x => x = w1.heap.size) (by simp) (fun x hx => by rw [hx]; exact Nat.le_refl _))
  have bo := Lib.hid (new_blk1 w1 #[.slice A1 n c1, .int .i64 d] 54)
  have E2 := Lib.hid (Ext.trans h1 (Ext.alloc_ w1 (.cells #[.slice A1 n c1, .int .i64 d] 54)))
  obtain ⟨x1, x2, x3⟩ := blk_cells (ext_blk h1 b1.out)
  have z1 := Lib.hid (show w.heap.size + 1 + 1 + 1 ≤ w1.heap.size by have := h1.size; simpa using this)
  have q0 := x1 0
  have q1 := x1 1
  simp at q0 q1
  clear h1 hA1 x1
  go_wp2_with fail
  refine (sIn _ _ _ _).mono ?_
  rintro e w2 ⟨rfl, rfl⟩
  by_cases hok : 0 ≤ i ∧ i < (n : Int)
  · have hin : inB i 0 ((n : Int) - 1) = true := by simp [inB]; omega
    rw [hin]
    obtain ⟨k, rfl⟩ : ∃ k : Nat, i = (k : Int) := ⟨i.toNat, by omega⟩
    have hk : k < n := by omega
    have hLL := Lib.hid (show tkL l k = l.eraseIdx k by unfold tkL; rw [if_pos ⟨by omega, by rw [N1.out]; omega⟩]; simp)
    have hMM := Lib.hid (show tkM l k = l[k]'(by rw [N1.out]; exact hk) from tkM_get (by rw [N1.out]; exact hk))
    have hBB := Lib.hid (show tkB l k = true by simp [tkB, N1.out]; omega)
    clear hin hok
    obtain ⟨b, off, rfl, hb, hc⟩ := (els_up M3.out E2.out).at_ (List.ne_nil_of_length_pos (by rw [N1.out]; omega))
    obtain ⟨B, cB, hRB, k0, k1, k2, k3⟩ := els_msg hc k (by rw [N1.out]; exact hk)
    rw [← hMM.out] at k0 k1 k2 k3 hRB
    have hbl := Lib.hid (show (tkM l k).body.length ≤ 1048576 by rw [hMM.out]; exact D1.out _ (List.getElem_mem _))
    have R := Lib.hid hRB
    clear hc hRB
    generalize hmm : tkM l k = m at *
    have p0 : (0 : Int) ≤ (k : Int) := by omega
    have p1 : (k : Int) < (n : Int) := by omega
    have p2 : (k : Int) ≤ (n : Int) := by omega
    go_wp2_with fail
    refine (sMsgC _ _ _ _ _ _ _ m.body rfl R.out (by have := hbl.out; omega)).mono ?_
    rintro e w4 ⟨g', A', c', rfl, hE4, hN⟩
    have F4 := Lib.hid hE4
    have N4 := Lib.hid (hN.mono (B' := w.heap.size + 1 + 1 + 1) (by have := E2.out.size; simpa using this))
    have bo4 := Lib.hid (ext_blk hE4 bo.out)
    obtain ⟨y1, y2, y3⟩ := blk_cells bo4.out
    have r0 := y1 0
    have r1 := y1 1
    simp at r0 r1
    obtain ⟨es, o1, o2, o3, o4⟩ := F1.out.ext (Ext.trans hE4 (Ext.alloc_ w4 (.cells #[.int .i64 m.to, .int .i64 m.cat, .int .i64 m.dl, .slice A' m.body.length c'] 71)))
    have hel : es.length = n := by have := congrArg List.length o4; rw [N1.out] at this; simpa using this
    have oo := o1.2
    rcases oo with ⟨h0, _⟩ | ⟨G, cap, cur, e1, hGB, hGc, hcc, -, -, -⟩
    · exfalso
      injection h0 with _ h0
      omega
    · injection e1 with e1 e2 e3
      subst e1 e3
      rw [hel] at o1 hcc
      obtain ⟨cp1, cp2⟩ := cel_part o1 k (by omega) hel
      obtain ⟨PA, hPA0⟩ : ∃ PA : Option Addr, (if c1 = k + 1 then some ⟨G, 0, none⟩ else some ⟨G, (k + 1) * 4, none⟩) = PA := ⟨_, rfl⟩
      have CP1 := Lib.hid cp1
      have CP2 := Lib.hid (show Cel _ PA (rowOf kMsg (es.drop (k + 1))) by rw [← hPA0]; exact cp2)
      have hPn := Lib.hid (show PA = none → c1 - (k + 1) = 0 by rw [← hPA0]; intro h; split at h <;> cases h)
      have hPA := Lib.hid hPA0
      have OB := Lib.hid (o2 G rfl)
      have OX := Lib.hid o3
      have OM := Lib.hid o4
      have HL := Lib.hid hel
      have x5 := Lib.hid (show w1.heap.size < w4.heap.size from y3)
      have w2 : IntKind.i64.wrap ((k : Int) + 1) = (k : Int) + 1 := by rw [IntKind.wrap_i64]; omega
      have hwc : k ≤ c1 := by omega
      have hwc2 : k + 1 ≤ c1 := by omega
      have hwn : k + 1 ≤ n := by omega
      have bM := Lib.hid (new_blk1 w4 #[.int .i64 m.to, .int .i64 m.cat, .int .i64 m.dl, .slice A' m.body.length c'] 71)
      clear cp1 cp2 hPA0 o1 o2 o3 o4 hel hGc hcc e2 y1 hGB hE4 hN k0 k1 k2 k3 q0 q1 x2 x3
      go_wp2_with fail
      generalize hW4 : w4.alloc (.cells #[.int .i64 m.to, .int .i64 m.cat, .int .i64 m.dl, .slice A' m.body.length c'] 71) = W4 at *
      have zW4 := Lib.hid (show W4.heap.size = w4.heap.size + 1 by rw [← hW4]; simp)
      have H4 := Lib.hid (show Ext w4 W4 by rw [← hW4]; exact Ext.alloc_ _ _)
      have bo5 := Lib.hid (ext_blk H4.out bo4.out)
      clear hW4 r0 r1 y2 y3
      obtain ⟨y1, y2, y3⟩ := blk_cells bo5.out
      have r0 := y1 0
      have r1 := y1 1
      simp at r0 r1
      clear y1
      refine wp_region_chain 11 (by kernel_rfl) (by kernel_rfl) ?_
      simp only [List.take_succ_cons, List.take_zero, List.drop_succ_cons, List.drop_zero]
      refine Chain.sp (SP.emp W4.heap.size 71) ?_ ?_
      · intro vs wq hEq hd
        have hz := hEq.size
        clear hd
        (try simp only [Act.put, SP.pick, SP.is, SP.box, id_eq, List.take_succ_cons, List.take_zero, List.drop_succ_cons, List.drop_zero, List.setIfInBounds_toArray, List.set_cons_zero, List.set_cons_succ])
        refine growOp_go ?_
        go_simp
        exact ⟨Ext.alloc_ _ _, wq.heap.size, rfl, hz, new_blk1 wq #[] 71⟩
      repeat (apply Chain.quiet; · (intro vs wq hEq hd; obtain ⟨hcq, hfq⟩ := bcell hEq; clear hEq hd; (try simp only [Act.put, SP.pick, SP.is, SP.box, id_eq, List.take_succ_cons, List.take_zero, List.drop_succ_cons, List.drop_zero, List.setIfInBounds_toArray, List.set_cons_zero, List.set_cons_succ]); refine growOp_go ?_; go_simp; exact ⟨Ext.refl _, rfl⟩))
      refine Chain.sp (SP.own W4.heap.size 71 4 k (rowOf kMsg (es.take k))) ?_ ?_
      · intro vs wq hEq hd
        obtain ⟨g7, e7, hg7, hb7⟩ := hd 0 (by kernel_rfl)
        have hb8 := Lib.hid hb7
        clear hd hb7
        simp only [Act.put, SP.pick, SP.is, SP.box, id_eq, List.take_succ_cons, List.take_zero, List.drop_succ_cons, List.drop_zero, List.setIfInBounds_toArray, List.set_cons_zero, List.set_cons_succ]
        rw [e7]
        refine grow_app0S (.tmp 26) (.tmp 30) elMsg rfl rfl g7 rfl hb8.out _ k _ (rowOf kMsg (es.take k)) rfl (CP1.out.ext hEq) (by simp) (by rw [rowOf_len]; simp only [List.length_take, HL.out]; rw [Nat.min_eq_left (by omega)]; rfl) row_one (by omega) (by omega) _ hg7 ?_
        exact fun v' w' h => h
      repeat (apply Chain.quiet; · (intro vs wq hEq hd; obtain ⟨hcq, hfq⟩ := bcell hEq; clear hEq hd; (try simp only [Act.put, SP.pick, SP.is, SP.box, id_eq, List.take_succ_cons, List.take_zero, List.drop_succ_cons, List.drop_zero, List.setIfInBounds_toArray, List.set_cons_zero, List.set_cons_succ]); refine growOp_go ?_; go_simp; exact ⟨Ext.refl _, rfl⟩))
      refine Chain.quiet (V := .slice PA (n - (k + 1)) (c1 - (k + 1))) ?_ ?_
      · intro vs wq hEq hd
        obtain ⟨hcq, hfq⟩ := bcell hEq
        clear hEq hd
        (try simp only [Act.put, SP.pick, SP.is, SP.box, id_eq, List.take_succ_cons, List.take_zero, List.drop_succ_cons, List.drop_zero, List.setIfInBounds_toArray, List.set_cons_zero, List.set_cons_succ])
        refine growOp_go ?_
        go_simp
        rw [if_pos ⟨by omega, by omega⟩, hPA.out]
        exact ⟨Ext.refl _, by simp⟩
      refine Chain.done ?_
      intro vs w6 hE6 hd6
      simp only [Act.put, SP.pick, SP.is, SP.box, id_eq, List.take_succ_cons, List.take_zero, List.drop_succ_cons, List.drop_zero, List.setIfInBounds_toArray, List.set_cons_zero, List.set_cons_succ]
      have O6 := Lib.hid (hd6 5)
      simp only [SP.own] at O6
      have G6 := Lib.hid hE6
      have F6 := Lib.hid (Ext.trans (Ext.trans E2.out F4.out) (Ext.trans H4.out hE6))
      have bx6 := Lib.hid (ext_blk hE6 bo5.out)
      have bM6 := Lib.hid (ext_blk hE6 bM.out)
      clear hd6 hE6
      refine wpApp (.tmp 31) (.tmp 36) elMsg rfl rfl W4.heap.size (vs 5) k (rowOf kMsg (es.take k)) rfl O6.out PA (n - (k + 1)) (c1 - (k + 1)) (rowOf kMsg (es.drop (k + 1))) rfl (CP2.out.ext G6.out) (by rw [rowOf_len, List.length_drop, HL.out]; rfl) hPn.out row_one (by unfold maxLen; omega) (by omega) G6.out.size ?_
      intro v' w7 q1 q2 q3
      have hlt := O6.out.lt
      have hxx : w1.heap.size < W4.heap.size := y3
      have AD := Lib.hid (AppR.del (K := kMsg) (i := k) (m := n - 1) (rv := (vs 5).ownBlock) (B := w.heap.size + 1 + 1 + 1) (X := fun x => x = w1.heap.size) (by rw [HL.out]; omega) (by rw [HL.out]) (own_weak (by rwa [show k + (n - (k + 1)) = n - 1 by omega] at q1) (by have := z1.out; omega)) q2 q3 ((OB.out.2.ext G6.out).mono (Nat.le_refl _) G6.out.size) (fun e he h0 h => by have h1 := OB.out.2.lt he h0; have h2 := (hlt _ h).1; omega) (fun G hG hx => by have h1 := (hlt _ hG).1; omega) (fun x hx => by have := G6.out.size; omega) OX.out)
      rw [OM.out, ← hLL.out] at AD
      have hLn := Lib.hid (show (tkL l k).length = n - 1 by rw [hLL.out, List.length_eraseIdx_of_lt (by rw [N1.out]; omega), N1.out])
      obtain ⟨A4, c4, hv4, -, -, hO4, -⟩ := AD.out.own
      rw [hLn.out] at hv4
      subst hv4
      have F7 := Lib.hid (ext_grown F6.out q2 O6.out (by have := z1.out; simp; omega))
      have bx7 := Lib.hid ((q2.block _ (heap_lt bx6.out) (fun h => by have h1 := (hlt _ h.symm).1; omega)).trans bx6.out)
      have bM7 := Lib.hid ((q2.block _ (heap_lt bM6.out) (fun h => by have h1 := (hlt _ h.symm).1; have := zW4.out; omega)).trans bM6.out)
      have N7 := Lib.hid (show NewB w7 (w.heap.size + 1 + 1 + 1) g' A' c' m.body from by
        obtain ⟨n1, n2, n3, n4⟩ := (N4.out.ext H4.out).ext G6.out
        refine ⟨n1, n2, n3, ?_⟩
        by_cases h0 : m.body = []
        · exact .inl h0
        · obtain ⟨a1, a2, cs, T, a3, a4⟩ := n4.resolve_left h0
          have hg4 := N4.out.lt (by simpa using h0)
          exact .inr ⟨a1, Nat.lt_of_lt_of_le a2 q2.size, cs, T, (q2.block _ a2 (fun h => by have h1 := (hlt _ h.symm).1; have := zW4.out; omega)).trans a3, a4⟩)
      have AS := Lib.hid (AD.out.set_ (p := ⟨w1.heap.size, 0, none⟩) rfl (.slice A4 (n - 1) c4))
      have NS := Lib.hid (show NewB (w7.setCell ⟨w1.heap.size, 0, none⟩ (.slice A4 (n - 1) c4)) (w.heap.size + 1 + 1 + 1) g' A' c' m.body from by
        refine N7.out.chg (S := fun x => x = w1.heap.size) (Chg.set (p := ⟨w1.heap.size, 0, none⟩) (Chg.refl w7 (fun x => x = w1.heap.size)) rfl (.slice A4 (n - 1) c4)) fun h0 hx => ?_
        obtain ⟨n1, n2, n3, n4⟩ := N4.out
        obtain ⟨_, _, cs, T, a3, a4⟩ := n4.resolve_left (by intro h; rw [h] at h0; exact h0 rfl)
        rw [hx, bo4.out] at a3
        injection a3 with a3
        injection a3 with a3
        subst a3
        have := a4 0 _ (List.getElem?_eq_getElem (Nat.pos_of_ne_zero h0))
        simp at this)
      obtain ⟨u1, u2, u3⟩ := blk_cells (ext_blk F7.out b2.out)
      have t0 := u1 0
      have t1 := u1 1
      obtain ⟨v1, v2, v3⟩ := blk_cells (ext_blk F7.out b3.out)
      have s0 := v1 0
      have s1 := v1 1
      have s2 := v1 2
      have s3 := v1 3
      obtain ⟨j1, j2, j3⟩ := blk_cells bx7.out
      have f0 := j1 0
      have f1 := j1 1
      obtain ⟨l1, l2, l3⟩ := blk_cells bM7.out
      have g0 := l1 0
      have g1 := l1 1
      have g2 := l1 2
      have g3 := l1 3
      simp at t0 t1 s0 s1 s2 s3 f0 f1 g0 g1 g2 g3
      have z9 := z1.out
      have x6 : w1.heap.size < w4.heap.size := x5.out
      clear q1 q2 q3 hlt hO4 CP1 CP2 hPA hPn OB OX OM G6 bx6 bM6 O6 AD u1 v1 j1 l1 r0 r1 w2 p0 p1 p2 y2 y3 hxx N7 N4 x5
      go_wp2_with fail
      go_region
      have hd : ∀ {a : World}, Ext a a.drew := fun {a} => Ext.drew (Ext.refl a)
      go_wp2_with fail
      refine bodyPost_ret (v := .tuple #[.agg #[.slice A4 (n - 1) c4, .int .i64 d], .agg #[.int .i64 m.to, .int .i64 m.cat, .int .i64 m.dl, .slice A' m.body.length c'], .bool true]) (by clear N1 D1 z1 hLL hMM E0 b1 b2 b3 M3 hbl F1 bo E2 R F4 bo4 HL bM zW4 H4 bo5 hLn F7 bx7 bM7 AS NS hd; simp [results, Try.results49, go_sem, *]) rfl ⟨A4, c4, g', A', c', by first | rw [hLn.out, hBB.out, hmm] | rw [hLn.out, hBB.out], ?_, ?_, ?_⟩
      · refine Ext.drew ?_
        iterate 4 refine Ext.setCell_ ?_ (by simp <;> omega) _
        iterate 3 refine Ext.setCell_ ?_ (by simp <;> omega) _
        exact Ext.trans E0.out F7.out
      · have hO := AS.out.own'
        refine Own.ext ?_ hd
        refine Own.mono (B := w.heap.size + 1 + 1 + 1) (C := w7.heap.size) ?_ (by omega) (by simp)
        iterate 6 refine Own.set_ ?_ (by simp <;> omega) _
        simpa using hO
      · refine NewB.ext ?_ hd
        refine NewB.mono (B := w.heap.size + 1 + 1 + 1) ?_ (by omega)
        iterate 6 refine NewB.set_ ?_ (by simp <;> omega) _
        first | exact NS.out | (rw [hmm]; exact NS.out)
  · have hin : inB i 0 ((n : Int) - 1) = false := by simp [inB]; omega
    rw [hin]
    have hLL := Lib.hid (show tkL l i = l by unfold tkL; rw [if_neg (by rw [N1.out]; exact hok)])
    have hMM := Lib.hid (show tkM l i = ⟨0, 0, 0, []⟩ from tkM_not (by rw [N1.out]; exact hok))
    have hBB := Lib.hid (show tkB l i = false by simp [tkB, N1.out]; omega)
    clear hin hok q0 q1 x2 x3
    have z9 := z1.out
    generalize hW1 : w1.alloc (.cells #[.slice A1 n c1, .int .i64 d] 54) = W1 at *
    have zW1 := Lib.hid (show W1.heap.size = w1.heap.size + 1 by rw [← hW1]; simp)
    clear hW1
    obtain ⟨u1, u2, u3⟩ := blk_cells (ext_blk E2.out b2.out)
    have t0 := u1 0
    have t1 := u1 1
    obtain ⟨v1, v2, v3⟩ := blk_cells (ext_blk E2.out b3.out)
    have s0 := v1 0
    have s1 := v1 1
    have s2 := v1 2
    have s3 := v1 3
    obtain ⟨j1, j2, j3⟩ := blk_cells bo.out
    have f0 := j1 0
    have f1 := j1 1
    simp at t0 t1 s0 s1 s2 s3 f0 f1
    clear u1 v1 j1
    go_wp2_with fail
    refine bodyPost_ret (v := .tuple #[.agg #[.slice A1 n c1, .int .i64 d], .agg #[.int .i64 0, .int .i64 0, .int .i64 0, .slice none 0 0], .bool false]) (by clear N1 D1 z1 hLL hMM E0 b1 b2 b3 M3 F1 bo E2 zW1 hBB K1; simp [results, Try.results49, go_sem, *]) rfl ⟨A1, c1, w.heap.size + 1 + 1 + 1, none, 0, by rw [hLL.out, hBB.out, hMM.out, N1.out]; rfl, ?_, ?_, ?_⟩
    · iterate 6 refine Ext.setCell_ ?_ (by simp <;> omega) _
      exact Ext.trans E0.out E2.out
    · have hO := F1.out.own'
      rw [hLL.out]
      refine Own.mono (B := w.heap.size + 1 + 1 + 1) (C := W1.heap.size) ?_ (by omega) (by simp)
      iterate 6 refine Own.set_ ?_ (by simp <;> omega) _
      exact hO
    · rw [hMM.out]
      exact ⟨fun _ => rfl, Nat.le_refl _, by omega, .inl rfl⟩
end Go.Proofs.Ytcjppmihmfcagaa
