/- Messages put into a queue: the reference's side. -/
import Derived.Test.YtkmklafjcjkpdaaDel
import Derived.Test.YtkmklafjcjkpdaaG15
namespace Go.Proofs.Ytkmklafjcjkpdaa
open Go.RowKit
set_option linter.unusedVariables false
set_option linter.unusedSimpArgs false

def catAt (l : List Msg) (i : Nat) : Int := match l[i]? with
  | some m => m.cat
  | none => 0
def wst (l : List Msg) : Nat → Nat
  | 0 => 0
  | k + 1 => if catAt l k ≤ catAt l (wst l k) then k else wst l k
theorem wst_lt (l : List Msg) (h : 0 < l.length) : ∀ k, k ≤ l.length → wst l k < l.length
  | 0, _ => h
  | k + 1, hk => by
    have := wst_lt l h k (by omega)
    unfold wst
    split <;> omega
theorem catAt_get {l : List Msg} {i : Nat} (h : i < l.length) : catAt l i = l[i].cat := by simp [catAt, h]
def enqL (l : List Msg) (d : Int) (m : Msg) : List Msg := if (okQ l d && okM m) = true then (if l.length + 1 ≤ 12 then l ++ [m] else (l ++ [m]).eraseIdx (wst (l ++ [m]) (l.length + 1))) else l
def enqD (l : List Msg) (d : Int) (m : Msg) : Int := if (okQ l d && okM m) = true then (if l.length + 1 ≤ 12 then d else wrap64 (d + 1)) else d
theorem okQ_len {l : List Msg} {d : Int} (h : okQ l d = true) : l.length ≤ 12 := by
  simp [okQ] at h
  omega
set_option maxRecDepth 8000 in
set_option maxHeartbeats 4000000 in
theorem sEnq (w : World) (A : Option Addr) (n c : Nat) (d : Int) (l : List Msg) (m : Msg) (Am : Option Addr) (cm : Nat) (hn : l.length = n) (hM : Els w A 4 (kE kMsg) l) (hb : ∀ m ∈ l, m.body.length ≤ 1048576) (hl : n ≤ 1048576) (hr : RB w Am cm m.body) (hbm : m.body.length ≤ 1048576) :
    Calls Try.prog 152 #[.agg #[.slice A n c, .int .i64 d], .agg #[.int .i64 m.to, .int .i64 m.cat, .int .i64 m.dl, .slice Am m.body.length cm]] w fun e w' => ∃ A' c', e = .returned (.agg #[.slice A' (enqL l d m).length c', .int .i64 (enqD l d m)]) ∧ Ext w w' ∧ Own kMsg w' w.heap.size w'.heap.size A' (enqL l d m) := by
  have E0 := Lib.hid (Ext.trans (Ext.trans (Ext.alloc_ w (.cells #[.slice A n c, .int .i64 d] 55)) (Ext.alloc_ _ (.cells #[.int .i64 m.to, .int .i64 m.cat, .int .i64 m.dl, .slice Am m.body.length cm] 59))) (Ext.alloc_ _ (.cells #[.slice none 0 0, .int .i64 0] 55)))
  have b1 := Lib.hid (ext_blk (Ext.trans (Ext.alloc_ _ (.cells #[.int .i64 m.to, .int .i64 m.cat, .int .i64 m.dl, .slice Am m.body.length cm] 59)) (Ext.alloc_ _ (.cells #[.slice none 0 0, .int .i64 0] 55))) (new_blk1 w #[.slice A n c, .int .i64 d] 55))
  have b2 := Lib.hid (ext_blk (Ext.alloc_ _ (.cells #[.slice none 0 0, .int .i64 0] 55)) (new_blk2 w (.cells #[.slice A n c, .int .i64 d] 55) #[.int .i64 m.to, .int .i64 m.cat, .int .i64 m.dl, .slice Am m.body.length cm] 59))
  have b3 := Lib.hid (new_blk3 w (.cells #[.slice A n c, .int .i64 d] 55) (.cells #[.int .i64 m.to, .int .i64 m.cat, .int .i64 m.dl, .slice Am m.body.length cm] 59) #[.slice none 0 0, .int .i64 0] 55)
  have N1 := Lib.hid hn
  have M3 := Lib.hid (els_up hM E0.out)
  have R3 := Lib.hid (hr.ext E0.out)
  have D1 := Lib.hid hb
  have K1 := Lib.hid hl
  have BM := Lib.hid hbm
  clear hn hM hb hl hr hbm
  by_cases hq : okQ l d = true
  · have hq' := Lib.hid hq
    by_cases hm : okM m = true
    · have hm' := Lib.hid (show msgB m.to m.cat m.dl m.body.length = true by simpa [okM] using hm)
      have hok := Lib.hid (show (okQ l d && okM m) = true by rw [hq, hm]; rfl)
      have h12 := Lib.hid (okQ_len hq)
      clear hq hm
      go_enter Try.func152, Try.ntmps152
      go_wp2_with fail
      refine (sCopyQ _ _ _ _ _ l N1.out M3.out D1.out K1.out).mono ?_
      rintro e w1 ⟨A1, c1, rfl, h1, hA1⟩
      have E1 := Lib.hid (Ext.trans E0.out h1)
      have H1 := Lib.hid h1
      have F1 := Lib.hid ((hA1.addX.ext (Ext.alloc_ w1 (.cells #[.slice A1 n c1, .int .i64 d] 55))).weak (B' := w.heap.size + 1 + 1 + 1) (X' := fun x => x = w1.heap.size) (by simp) (fun x hx => by rw [hx]; exact Nat.le_refl _))
      have bo := Lib.hid (new_blk1 w1 #[.slice A1 n c1, .int .i64 d] 55)
      have E2 := Lib.hid (Ext.trans h1 (Ext.alloc_ w1 (.cells #[.slice A1 n c1, .int .i64 d] 55)))
      obtain ⟨x1, x2, x3⟩ := blk_cells (ext_blk h1 b1.out)
      have z1 := Lib.hid (show w.heap.size + 1 + 1 + 1 ≤ w1.heap.size by have := h1.size; simpa using this)
      clear h1 hA1
      go_wp2_with fail
      refine (sQueOk _ _ _ _ _ l N1.out (els_up M3.out E2.out) (by have := K1.out; omega)).mono ?_
      rintro e w2 ⟨rfl, h2⟩
      have F2 := Lib.hid h2
      clear h2 x1 x2 x3
      rw [hq'.out]
      obtain ⟨x1, x2, x3⟩ := blk_cells (ext_blk (Ext.trans E2.out F2.out) b2.out)
      go_wp2_with fail
      refine (sMsgOk _ _ _ _ _ _ _).mono ?_
      rintro e w3 ⟨rfl, h3⟩
      rw [hm'.out]
      have F3 := Lib.hid (Ext.trans F2.out h3)
      clear h3 x1 x2 x3
      obtain ⟨x1, x2, x3⟩ := blk_cells (ext_blk (Ext.trans E2.out F3.out) b2.out)
      have n12 : n ≤ 12 := by have := h12.out; have := N1.out; omega
      go_wp2_with fail
      refine (sMsgC _ _ _ _ _ _ _ m.body rfl (R3.out.ext (Ext.trans E2.out F3.out)) (by have := BM.out; omega)).mono ?_
      rintro e w4 ⟨g', A', c', rfl, hE4, hN⟩
      have F4 := Lib.hid (Ext.trans F3.out hE4)
      have bo4 := Lib.hid (ext_blk F4.out bo.out)
      obtain ⟨z1', z2, z3⟩ := blk_cells bo4.out
      have r0 := z1' 0
      have r1 := z1' 1
      simp at r0 r1
      have hL := Lib.hid (cel_lit (w4.alloc (.cells #[.int .i64 m.to, .int .i64 m.cat, .int .i64 m.dl, .slice A' m.body.length c'] 59)) 59 #[.int .i64 m.to, .int .i64 m.cat, .int .i64 m.dl, .slice A' m.body.length c'])
      rw [World.size_alloc] at hL
      have hXB := Lib.hid (Ext.trans (Ext.alloc_ w4 (.cells #[.int .i64 m.to, .int .i64 m.cat, .int .i64 m.dl, .slice A' m.body.length c'] 59)) (Ext.alloc_ _ (.cells #[.int .i64 m.to, .int .i64 m.cat, .int .i64 m.dl, .slice A' m.body.length c'] 59)))
      have hG := Lib.hid (Ext.trans F4.out hXB.out)
      have hN' : NewB w4 (w.heap.size + 1 + 1 + 1) g' A' c' m.body := hN.mono (by have h1 := E2.out.size; have h2 := F3.out.size; simp at h1 h2; omega)
      have hel := Lib.hid ((hN'.el (K := kMsg) (x := m)).ext hXB.out)
      have hgg := Lib.hid (show (w1.alloc (.cells #[.slice A1 n c1, .int .i64 d] 55)).heap.size ≤ g' from Nat.le_trans F3.out.size hN.2.2.1)
      have hone := Lib.hid (msg_one m A' m.body.length c')
      have hsz := Lib.hid (show w.heap.size + 1 + 1 + 1 ≤ w4.heap.size by have h1 := E2.out.size; have h2 := F4.out.size; simp at h1 h2; omega)
      clear hE4 hN hN' z1' x1 x2 x3
      go_wp2_with (at_builtin; refine wpPush (K := kMsg) (.tmp 23) (.tmp 25) elMsg rfl rfl (w.heap.size + 1 + 1 + 1) (w1 := ((w.alloc (.cells #[.slice A n c, .int .i64 d] 55)).alloc (.cells #[.int .i64 m.to, .int .i64 m.cat, .int .i64 m.dl, .slice Am m.body.length cm] 59)).alloc (.cells #[.slice none 0 0, .int .i64 0] 55)) (.slice A1 n c1) l rfl F1.out hG.out _ _ m g' A' c' rfl hL.out (by simp) hone.out hel.out hgg.out (fun x hx => by rw [hx]; simp) (by have := N1.out; unfold maxLen; omega) (by have := N1.out; omega) (by have := hsz.out; simp; omega) (Ext.trans E2.out hG.out) (by simp) ?_)
      intro v' w5 hA' hE' hX'
      have N2 := Lib.hid (show (l ++ [m]).length = n + 1 by simp [N1.out])
      obtain ⟨L1, hL1⟩ : ∃ L1, L1 = l ++ [m] := ⟨_, rfl⟩
      rw [← hL1] at hA' N2
      obtain ⟨A2, c2, hv, -, -, -, -⟩ := hA'.own
      rw [N2.out] at hv
      subst hv
      have hbx := Lib.hid (hX'.trans (ext_blk hG.out bo.out))
      obtain ⟨z1', z2, z3⟩ := blk_cells hbx.out
      have s0 := z1' 0
      have s1 := z1' 1
      simp at s0 s1
      have K5 := Lib.hid (hE'.setCell_ (p := ⟨w1.heap.size, 0, none⟩) (by have := z1.out; simp; omega) (.slice A2 (n + 1) c2))
      have A5 := Lib.hid (hA'.set_ (p := ⟨w1.heap.size, 0, none⟩) rfl (.slice A2 (n + 1) c2))
      have bx5 := Lib.hid (blk_set hbx.out 0 (.slice A2 (n + 1) c2))
      have hLq := Lib.hid hL1
      clear hL hG hel hgg hone hsz hX' hE' hA' z1' r0 r1 hL1 hXB
      by_cases hlen : n + 1 ≤ 12
      · have hlen' : ¬ (12 : Int) < (n : Int) + 1 := by omega
        have hLL := Lib.hid (show enqL l d m = L1 by unfold enqL; rw [if_pos hok.out, if_pos (by have := N1.out; omega), hLq.out])
        have hDD := Lib.hid (show enqD l d m = d by unfold enqD; rw [if_pos hok.out, if_pos (by have := N1.out; omega)])
        obtain ⟨y1, y2, y3⟩ := blk_cells (ext_blk K5.out b3.out)
        have p0 := y1 0
        have p1 := y1 1
        simp at p0 p1
        clear y1
        go_wp2_with fail
        refine bodyPost_ret (v := .agg #[.slice A2 (n + 1) c2, .int .i64 d]) (by clear E0 b1 b2 b3 N1 M3 R3 D1 K1 BM hq' E1 H1 F1 bo E2 F2 hm' F3 hok h12 F4 bo4 N2 hbx K5 A5 bx5 hLq hLL hDD z1 hlen hlen' n12; simp [results, Try.results152, go_sem, *]) rfl ⟨A2, ⟨c2, by rw [hLL.out, hDD.out, N2.out]⟩, ?_, ?_⟩
        · iterate 2 refine Ext.setCell_ ?_ (by simp <;> omega) _
          exact Ext.trans E0.out K5.out
        · rw [hLL.out]
          obtain ⟨A3, c3, e3, -, -, hO, -⟩ := A5.out.own
          injection e3 with e3
          subst e3
          refine Own.mono (B := w.heap.size + 1 + 1 + 1) (C := w5.heap.size) ?_ (by omega) (by simp)
          iterate 2 refine Own.set_ ?_ (by simp <;> omega) _
          simpa using hO
      · have hlen2 : (12 : Int) < (n : Int) + 1 := by omega
        have hLL := Lib.hid (show enqL l d m = L1.eraseIdx (wst L1 (n + 1)) by unfold enqL; rw [if_pos hok.out, if_neg (by have := N1.out; omega), hLq.out, N1.out])
        have hDD := Lib.hid (show enqD l d m = wrap64 (d + 1) by unfold enqD; rw [if_pos hok.out, if_neg (by have := N1.out; omega)])
        obtain ⟨A3, c3, e3, hcap, -, hO3, -⟩ := A5.out.own
        injection e3 with e3 e4 e5
        subst e3 e5
        rw [N2.out] at hcap
        have O5 := Lib.hid hO3.els
        have hwl := Lib.hid (wst_lt L1 (by rw [N2.out]; omega))
        clear hO3 e4 hlen
        go_wp2
        go_loopw [7, 8] (fun wv i wr => ∃ k : Nat, k ≤ n + 1 ∧ i = .int .i64 k ∧ wv = .int .i64 (wst L1 k : Nat) ∧ Hid (Ext (w5.setCell ⟨w1.heap.size, 0, none⟩ (.slice A2 (n + 1) c2)) wr)) (fun _ i _ => n + 1 - (intOf i).toNat)
        case atStart => exact ⟨0, Nat.zero_le _, rfl, rfl, Lib.hid (Ext.refl _)⟩
        case round =>
          obtain ⟨k, hk, rfl, rfl, hE⟩ := hrel
          obtain ⟨x1, x2, x3⟩ := blk_cells (ext_blk hE.out bx5.out)
          have r0 := x1 0
          have r1 := x1 1
          simp at r0 r1
          by_cases hlt : k < n + 1
          · have hw1 := hwl.out k (by rw [N2.out]; omega)
            have hwn : wst L1 k < n + 1 := by rw [N2.out] at hw1; exact hw1
            have hst := Lib.hid (show wst L1 (k + 1) = if catAt L1 k ≤ catAt L1 (wst L1 k) then k else wst L1 k from rfl)
            obtain ⟨b, off, rfl, hb, hc⟩ := (els_up O5.out hE.out).at_ (List.ne_nil_of_length_pos (by rw [N2.out]; omega))
            have hkl : k < L1.length := by rw [N2.out]; exact hlt
            obtain ⟨B1, cB1, hRB1, k0, k1, k2, k3⟩ := els_msg hc k hkl
            obtain ⟨B2, cB2, hRB2, m0, m1, m2, m3⟩ := els_msg hc (wst L1 k) hw1
            rw [← catAt_get hkl] at k1
            rw [← catAt_get hw1] at m1
            have p0 : (0 : Int) ≤ (k : Int) := by omega
            have p1 : (k : Int) < ((n : Int) + 1) := by omega
            clear hc hRB1 hRB2 k0 k2 k3 m0 m2 m3 hw1 hkl
            generalize wst L1 k = wk at *
            have p2 : (0 : Int) ≤ (wk : Int) := by omega
            have p3 : (wk : Int) < ((n : Int) + 1) := by omega
            by_cases hcm : catAt L1 k ≤ catAt L1 wk
            · have hs2 := Lib.hid (show wst L1 (k + 1) = k by rw [hst.out, if_pos hcm])
              go_wp2_with fail
              refine wp_region_chain 13 (by kernel_rfl) (by kernel_rfl) ?_
              simp only [List.take_succ_cons, List.take_zero, List.drop_succ_cons, List.drop_zero]
              repeat (apply Chain.quiet; · (intro vs wq hEq hd; obtain ⟨hcq, hfq⟩ := bcell hEq; clear hEq hd; (try simp only [Act.put, SP.pick, SP.is, SP.box, id_eq, List.take_succ_cons, List.take_zero, List.drop_succ_cons, List.drop_zero, List.setIfInBounds_toArray, List.set_cons_zero, List.set_cons_succ]); refine growOp_go ?_; go_simp; exact ⟨Ext.refl _, rfl⟩))
              refine Chain.done ?_
              intro vs w9 hE9 hd9
              simp only [Act.put, SP.pick, SP.is, SP.box, id_eq, List.take_succ_cons, List.take_zero, List.drop_succ_cons, List.drop_zero, List.setIfInBounds_toArray, List.set_cons_zero, List.set_cons_succ]
              clear hd9
              go_wp2
              go_roundw
              case rel => exact ⟨k + 1, by omega, by go_num, by rw [hs2.out], Lib.hid (Ext.trans hE.out hE9)⟩
              case measure => simp [intOf]; omega
            · have hs2 := Lib.hid (show wst L1 (k + 1) = wk by rw [hst.out, if_neg hcm])
              go_wp2_with fail
              refine wp_region_chain 13 (by kernel_rfl) (by kernel_rfl) ?_
              simp only [List.take_succ_cons, List.take_zero, List.drop_succ_cons, List.drop_zero]
              repeat (apply Chain.quiet; · (intro vs wq hEq hd; obtain ⟨hcq, hfq⟩ := bcell hEq; clear hEq hd; (try simp only [Act.put, SP.pick, SP.is, SP.box, id_eq, List.take_succ_cons, List.take_zero, List.drop_succ_cons, List.drop_zero, List.setIfInBounds_toArray, List.set_cons_zero, List.set_cons_succ]); refine growOp_go ?_; go_simp; exact ⟨Ext.refl _, rfl⟩))
              refine Chain.done ?_
              intro vs w9 hE9 hd9
              simp only [Act.put, SP.pick, SP.is, SP.box, id_eq, List.take_succ_cons, List.take_zero, List.drop_succ_cons, List.drop_zero, List.setIfInBounds_toArray, List.set_cons_zero, List.set_cons_succ]
              clear hd9
              go_wp2
              go_roundw
              case rel => exact ⟨k + 1, by omega, by go_num, by rw [hs2.out], Lib.hid (Ext.trans hE.out hE9)⟩
              case measure => simp [intOf]; omega
          · obtain rfl : k = n + 1 := by omega
            have hw1 := hwl.out (n + 1) (by rw [N2.out]; exact Nat.le_refl _)
            obtain ⟨wk, hwk⟩ : ∃ wk, wk = wst L1 (n + 1) := ⟨_, rfl⟩
            rw [← hwk] at hw1 hLL ⊢
            rw [N2.out] at hw1
            obtain ⟨es, o1, o2, o3, o4⟩ := A5.out.ext hE.out
            have hel : es.length = n + 1 := by have := congrArg List.length o4; rw [N2.out] at this; simpa using this
            have oo := o1.2
            rcases oo with ⟨h0, _⟩ | ⟨G, cap, cur, e1, hGB, hGc, -, -, -, -⟩
            · exfalso
              injection h0 with _ h0
              omega
            · injection e1 with e1 e2 e3
              subst e1 e3
              rw [hel] at o1
              obtain ⟨cp1, cp2⟩ := cel_part o1 wk (by omega) hel
              obtain ⟨PA, hPA0⟩ : ∃ PA : Option Addr, (if c2 = wk + 1 then some ⟨G, 0, none⟩ else some ⟨G, (wk + 1) * 4, none⟩) = PA := ⟨_, rfl⟩
              have CP1 := Lib.hid cp1
              have CP2 := Lib.hid (show Cel wr PA (rowOf kMsg (es.drop (wk + 1))) by rw [← hPA0]; exact cp2)
              have hPn := Lib.hid (show PA = none → c2 - (wk + 1) = 0 by rw [← hPA0]; intro h; split at h <;> cases h)
              have hPA := Lib.hid hPA0
              have OB := Lib.hid (o2 G rfl)
              have OX := Lib.hid o3
              have OM := Lib.hid o4
              have HL := Lib.hid hel
              have x5 := Lib.hid (show w1.heap.size < wr.heap.size from x3)
              have hGl := Lib.hid (heap_lt hGc)
              have p0 : (0 : Int) ≤ (wk : Int) := by omega
              have p1 : (wk : Int) ≤ (n : Int) + 1 := by omega
              have w2 : IntKind.i64.wrap ((wk : Int) + 1) = (wk : Int) + 1 := by rw [IntKind.wrap_i64]; omega
              have hwc : wk ≤ c2 := by omega
              have hwc2 : wk + 1 ≤ c2 := by omega
              have hwn : wk + 1 ≤ n + 1 := by omega
              clear cp1 cp2 hPA0 o1 o2 o3 o4 hel hGc hwk e2 x1 hGB
              go_wp2_with fail
              refine wp_region_chain 11 (by kernel_rfl) (by kernel_rfl) ?_
              simp only [List.take_succ_cons, List.take_zero, List.drop_succ_cons, List.drop_zero]
              refine Chain.sp (SP.emp wr.heap.size 59) ?_ ?_
              · intro vs wq hEq hd
                have hz := hEq.size
                clear hd
                (try simp only [Act.put, SP.pick, SP.is, SP.box, id_eq, List.take_succ_cons, List.take_zero, List.drop_succ_cons, List.drop_zero, List.setIfInBounds_toArray, List.set_cons_zero, List.set_cons_succ])
                refine growOp_go ?_
                go_simp
                exact ⟨Ext.alloc_ _ _, wq.heap.size, rfl, hz, new_blk1 wq #[] 59⟩
              repeat (apply Chain.quiet; · (intro vs wq hEq hd; obtain ⟨hcq, hfq⟩ := bcell hEq; clear hEq hd; (try simp only [Act.put, SP.pick, SP.is, SP.box, id_eq, List.take_succ_cons, List.take_zero, List.drop_succ_cons, List.drop_zero, List.setIfInBounds_toArray, List.set_cons_zero, List.set_cons_succ]); refine growOp_go ?_; go_simp; exact ⟨Ext.refl _, rfl⟩))
              refine Chain.sp (SP.own wr.heap.size 59 4 wk (rowOf kMsg (es.take wk))) ?_ ?_
              · intro vs wq hEq hd
                obtain ⟨g7, e7, hg7, hb7⟩ := hd 0 (by kernel_rfl)
                have hb8 := Lib.hid hb7
                clear hd hb7
                simp only [Act.put, SP.pick, SP.is, SP.box, id_eq, List.take_succ_cons, List.take_zero, List.drop_succ_cons, List.drop_zero, List.setIfInBounds_toArray, List.set_cons_zero, List.set_cons_succ]
                rw [e7]
                refine grow_app0S (.tmp 54) (.tmp 58) elMsg rfl rfl g7 rfl hb8.out _ wk _ (rowOf kMsg (es.take wk)) rfl (CP1.out.ext hEq) (by simp) (by rw [rowOf_len]; simp only [List.length_take, HL.out]; rw [Nat.min_eq_left (by omega)]; rfl) row_one (by omega) (by omega) _ hg7 ?_
                exact fun v' w' h => h
              repeat (apply Chain.quiet; · (intro vs wq hEq hd; obtain ⟨hcq, hfq⟩ := bcell hEq; clear hEq hd; (try simp only [Act.put, SP.pick, SP.is, SP.box, id_eq, List.take_succ_cons, List.take_zero, List.drop_succ_cons, List.drop_zero, List.setIfInBounds_toArray, List.set_cons_zero, List.set_cons_succ]); refine growOp_go ?_; go_simp; exact ⟨Ext.refl _, rfl⟩))
              refine Chain.quiet (V := .slice PA (n + 1 - (wk + 1)) (c2 - (wk + 1))) ?_ ?_
              · intro vs wq hEq hd
                obtain ⟨hcq, hfq⟩ := bcell hEq
                clear hEq hd
                (try simp only [Act.put, SP.pick, SP.is, SP.box, id_eq, List.take_succ_cons, List.take_zero, List.drop_succ_cons, List.drop_zero, List.setIfInBounds_toArray, List.set_cons_zero, List.set_cons_succ])
                refine growOp_go ?_
                go_simp
                rw [if_pos ⟨by omega, by omega⟩, hPA.out]
                exact ⟨Ext.refl _, by simp⟩
              refine Chain.done ?_
              intro vs w6 hE6 hd6
              simp only [Act.put, SP.pick, SP.is, SP.box, id_eq, List.take_succ_cons, List.take_zero, List.drop_succ_cons, List.drop_zero, List.setIfInBounds_toArray, List.set_cons_zero, List.set_cons_succ]
              have O6 := Lib.hid (hd6 5)
              simp only [SP.own] at O6
              have F6 := Lib.hid (Ext.trans (Ext.trans K5.out hE.out) hE6)
              have G6 := Lib.hid hE6
              have bx6 := Lib.hid (ext_blk (Ext.trans hE.out hE6) bx5.out)
              clear hd6 hE6
              refine wpApp (.tmp 59) (.tmp 64) elMsg rfl rfl wr.heap.size (vs 5) wk (rowOf kMsg (es.take wk)) rfl O6.out PA (n + 1 - (wk + 1)) (c2 - (wk + 1)) (rowOf kMsg (es.drop (wk + 1))) rfl (CP2.out.ext G6.out) (by rw [rowOf_len, List.length_drop, HL.out]; rfl) hPn.out row_one (by unfold maxLen; omega) (by omega) G6.out.size ?_
              intro v' w7 q1 q2 q3
              have hlt := O6.out.lt
              have AD := Lib.hid (AppR.del (K := kMsg) (i := wk) (m := n) (rv := (vs 5).ownBlock) (B := w.heap.size + 1 + 1 + 1) (X := fun x => x = w1.heap.size) (by rw [HL.out]; omega) (by rw [HL.out]; rfl) (own_weak (by have := wk + 1; rwa [show wk + (n + 1 - (wk + 1)) = n by omega] at q1) (by have := z1.out; omega)) q2 q3 ((OB.out.2.ext G6.out).mono (Nat.le_refl _) G6.out.size) (fun e he h0 h => by have h1 := OB.out.2.lt he h0; have h2 := (hlt _ h).1; omega) (fun G hG hx => by have h1 := (hlt _ hG).1; omega) (fun x hx => by have := G6.out.size; omega) OX.out)
              rw [OM.out, ← hLL.out] at AD
              have hLn := Lib.hid (show (enqL l d m).length = n by rw [hLL.out, List.length_eraseIdx_of_lt (by rw [N2.out]; omega), N2.out]; rfl)
              obtain ⟨A4, c4, hv4, -, -, hO4, -⟩ := AD.out.own
              rw [hLn.out] at hv4
              subst hv4
              have F7 := Lib.hid (ext_grown F6.out q2 O6.out (by have := z1.out; simp; omega))
              have bx7 := Lib.hid ((q2.block _ (heap_lt bx6.out) (fun h => by have h1 := (hlt _ h.symm).1; omega)).trans bx6.out)
              have AS := Lib.hid ((AD.out.set_ (p := ⟨w1.heap.size, 0, none⟩) rfl (.slice A4 n c4)).set_ (p := ⟨w1.heap.size, 1, none⟩) rfl (.int .i64 (wrap64 (d + 1))))
              obtain ⟨y1, y2, y3⟩ := blk_cells (ext_blk F7.out b3.out)
              have p0' := y1 0
              have p1' := y1 1
              obtain ⟨u1, u2, u3⟩ := blk_cells (ext_blk F7.out b1.out)
              have t1 := u1 1
              obtain ⟨s1', s2, s3⟩ := blk_cells bx7.out
              have v0 := s1' 0
              have v1 := s1' 1
              simp at p0' p1' t1 v0 v1
              clear q1 q2 q3 hlt hO4 CP1 CP2 hPA hPn OB OX OM G6 bx6 O6 AD y1 u1 s1' s0 s1 w2 p0 p1 K5 A5 bx5 hbx bo4 O5 bx7 z2 z3
              have z9 := z1.out
              go_wp2_with fail
              refine bodyPost_ret (v := .agg #[.slice A4 n c4, .int .i64 (wrap64 (d + 1))]) (by clear E0 b1 b2 b3 N1 M3 R3 D1 K1 BM hq' E1 H1 F1 bo E2 F2 hm' F3 hok h12 F4 N2 hLq hLL hDD z1 hlen2 n12 F6 F7 hLn AS HL hwl hE; simp [results, Try.results152, go_sem, *]) rfl ⟨A4, c4, by rw [hLn.out, hDD.out], ?_, ?_⟩
              · iterate 2 refine Ext.setCell_ ?_ (by simp <;> omega) _
                iterate 2 refine Ext.setCell_ ?_ (by simp <;> omega) _
                exact Ext.trans E0.out F7.out
              · obtain ⟨A3, c3, e3, -, -, hO, -⟩ := AS.out.own
                injection e3 with e3
                subst e3
                refine Own.mono (B := w.heap.size + 1 + 1 + 1) (C := w7.heap.size) ?_ (by omega) (by simp)
                iterate 2 refine Own.set_ ?_ (by simp <;> omega) _
                simpa using hO
    · have hm' := Lib.hid (show msgB m.to m.cat m.dl m.body.length = false by simpa [okM] using hm)
      have hL := Lib.hid (show enqL l d m = l by unfold enqL; rw [if_neg (by simp [hm])])
      have hD := Lib.hid (show enqD l d m = d by unfold enqD; rw [if_neg (by simp [hm])])
      clear hq hm
      go_enter Try.func152, Try.ntmps152
      go_wp2_with fail
      refine (sCopyQ _ _ _ _ _ l N1.out M3.out D1.out K1.out).mono ?_
      rintro e w1 ⟨A1, c1, rfl, h1, hA1⟩
      have E1 := Lib.hid (Ext.trans E0.out h1)
      have H1 := Lib.hid h1
      have F1 := Lib.hid ((hA1.addX.ext (Ext.alloc_ w1 (.cells #[.slice A1 n c1, .int .i64 d] 55))).weak (B' := w.heap.size + 1 + 1 + 1) (X' := fun x => x = w1.heap.size) (by simp) (fun x hx => by rw [hx]; exact Nat.le_refl _))
      have bo := Lib.hid (new_blk1 w1 #[.slice A1 n c1, .int .i64 d] 55)
      have E2 := Lib.hid (Ext.trans h1 (Ext.alloc_ w1 (.cells #[.slice A1 n c1, .int .i64 d] 55)))
      obtain ⟨x1, x2, x3⟩ := blk_cells (ext_blk h1 b1.out)
      have z1 := Lib.hid (show w.heap.size + 1 + 1 + 1 ≤ w1.heap.size by have := h1.size; simpa using this)
      clear h1 hA1
      go_wp2_with fail
      refine (sQueOk _ _ _ _ _ l N1.out (els_up M3.out E2.out) (by have := K1.out; omega)).mono ?_
      rintro e w2 ⟨rfl, h2⟩
      have F2 := Lib.hid h2
      clear h2 x1 x2 x3
      rw [hq'.out]
      obtain ⟨x1, x2, x3⟩ := blk_cells (ext_blk (Ext.trans E2.out F2.out) b2.out)
      go_wp2_with fail
      refine (sMsgOk _ _ _ _ _ _ _).mono ?_
      rintro e w3 ⟨rfl, h3⟩
      rw [hm'.out]
      have F3 := Lib.hid (Ext.trans F2.out h3)
      clear h3 x1 x2 x3
      obtain ⟨y1, y2, y3⟩ := blk_cells (ext_blk (Ext.trans E2.out F3.out) b3.out)
      obtain ⟨z1', z2, z3⟩ := blk_cells (ext_blk F3.out bo.out)
      have p0 := y1 0
      have p1 := y1 1
      have q0 := z1' 0
      have q1 := z1' 1
      simp at p0 p1 q0 q1
      clear y1 z1'
      go_wp2_with fail
      refine bodyPost_ret (v := .agg #[.slice A1 n c1, .int .i64 d]) (by clear E0 b1 b2 b3 N1 M3 R3 D1 K1 BM hq' hL hD E1 H1 F1 bo E2 F2 hm' F3; simp [results, Try.results152, go_sem, *]) rfl ⟨A1, c1, by rw [hL.out, hD.out, N1.out], ?_, ?_⟩
      · iterate 2 refine Ext.setCell_ ?_ (by simp <;> omega) _
        exact Ext.trans E0.out (Ext.trans E2.out F3.out)
      · rw [hL.out]
        obtain ⟨A2, c2, e2, -, -, hO, -⟩ := (F1.out.ext F3.out).own
        injection e2 with e2
        subst e2
        refine Own.mono (B := w.heap.size + 1 + 1 + 1) (C := w3.heap.size) ?_ (by omega) (by simp)
        iterate 2 refine Own.set_ ?_ (by simp <;> omega) _
        exact hO
  · have hq' := Lib.hid (show okQ l d = false by simpa using hq)
    have hL := Lib.hid (show enqL l d m = l by unfold enqL; rw [if_neg (by simp [hq])])
    have hD := Lib.hid (show enqD l d m = d by unfold enqD; rw [if_neg (by simp [hq])])
    clear hq
    go_enter Try.func152, Try.ntmps152
    go_wp2_with fail
    refine (sCopyQ _ _ _ _ _ l N1.out M3.out D1.out K1.out).mono ?_
    rintro e w1 ⟨A1, c1, rfl, h1, hA1⟩
    have E1 := Lib.hid (Ext.trans E0.out h1)
    have H1 := Lib.hid h1
    have F1 := Lib.hid ((hA1.addX.ext (Ext.alloc_ w1 (.cells #[.slice A1 n c1, .int .i64 d] 55))).weak (B' := w.heap.size + 1 + 1 + 1) (X' := fun x => x = w1.heap.size) (by simp) (fun x hx => by rw [hx]; exact Nat.le_refl _))
    have bo := Lib.hid (new_blk1 w1 #[.slice A1 n c1, .int .i64 d] 55)
    have E2 := Lib.hid (Ext.trans h1 (Ext.alloc_ w1 (.cells #[.slice A1 n c1, .int .i64 d] 55)))
    obtain ⟨x1, x2, x3⟩ := blk_cells (ext_blk h1 b1.out)
    have z1 := Lib.hid (show w.heap.size + 1 + 1 + 1 ≤ w1.heap.size by have := h1.size; simpa using this)
    clear h1 hA1
    go_wp2_with fail
    refine (sQueOk _ _ _ _ _ l N1.out (els_up M3.out E2.out) (by have := K1.out; omega)).mono ?_
    rintro e w2 ⟨rfl, h2⟩
    have F2 := Lib.hid h2
    clear h2 x1 x2 x3
    rw [hq'.out]
    obtain ⟨y1, y2, y3⟩ := blk_cells (ext_blk (Ext.trans E2.out F2.out) b3.out)
    obtain ⟨z1', z2, z3⟩ := blk_cells (ext_blk F2.out bo.out)
    have p0 := y1 0
    have p1 := y1 1
    have q0 := z1' 0
    have q1 := z1' 1
    simp at p0 p1 q0 q1
    clear y1 z1'
    go_wp2_with fail
    refine bodyPost_ret (v := .agg #[.slice A1 n c1, .int .i64 d]) (by clear E0 b1 b2 b3 N1 M3 R3 D1 K1 BM hq' hL hD E1 H1 F1 bo E2 F2; simp [results, Try.results152, go_sem, *]) rfl ⟨A1, c1, by rw [hL.out, hD.out, N1.out], ?_, ?_⟩
    · iterate 2 refine Ext.setCell_ ?_ (by simp <;> omega) _
      exact Ext.trans E0.out (Ext.trans E2.out F2.out)
    · rw [hL.out]
      obtain ⟨A2, c2, e2, -, -, hO, -⟩ := (F1.out.ext F2.out).own
      injection e2 with e2
      subst e2
      refine Own.mono (B := w.heap.size + 1 + 1 + 1) (C := w2.heap.size) ?_ (by omega) (by simp)
      iterate 2 refine Own.set_ ?_ (by simp <;> omega) _
      exact hO
end Go.Proofs.Ytkmklafjcjkpdaa
