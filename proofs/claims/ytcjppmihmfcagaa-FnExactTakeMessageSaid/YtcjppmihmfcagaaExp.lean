/- Messages that have expired are dropped. -/
import Derived.Test.YtcjppmihmfcagaaCpy
import Derived.Test.YtcjppmihmfcagaaTq
namespace Go.Proofs.Ytcjppmihmfcagaa
open Go.RowKit
set_option linter.unusedVariables false
set_option linter.unusedSimpArgs false

def keepM (now : Int) (l : List Msg) : List Msg := l.filter fun m => !decide (m.dl < now)
def incN (d : Int) : Nat → Int
  | 0 => d
  | k + 1 => wrap64 (incN d k + 1)
def dropM (now d : Int) (l : List Msg) : Int := incN d (l.countP fun m => decide (m.dl < now))
theorem keepM_no (now : Int) (l : List Msg) (k : Nat) (hk : k < l.length) (h : l[k].dl < now) : keepM now (l.take (k + 1)) = keepM now (l.take k) := by
  unfold keepM
  rw [take_snoc_get l k hk, List.filter_append]
  simp [h]
theorem keepM_yes (now : Int) (l : List Msg) (k : Nat) (hk : k < l.length) (h : ¬ l[k].dl < now) : keepM now (l.take (k + 1)) = keepM now (l.take k) ++ [l[k]] := by
  unfold keepM
  rw [take_snoc_get l k hk, List.filter_append]
  simp [h]
theorem dropM_no (now d : Int) (l : List Msg) (k : Nat) (hk : k < l.length) (h : l[k].dl < now) : dropM now d (l.take (k + 1)) = wrap64 (dropM now d (l.take k) + 1) := by
  unfold dropM
  rw [take_snoc_get l k hk, List.countP_append]
  simp [h, incN]
theorem dropM_yes (now d : Int) (l : List Msg) (k : Nat) (hk : k < l.length) (h : ¬ l[k].dl < now) : dropM now d (l.take (k + 1)) = dropM now d (l.take k) := by
  unfold dropM
  rw [take_snoc_get l k hk, List.countP_append]
  simp [h]
theorem keepM_len (now : Int) (l : List Msg) (k : Nat) : (keepM now (l.take k)).length ≤ l.length := by
  unfold keepM
  exact Nat.le_trans (List.length_filter_le _ _) (by simp; omega)
theorem keepM_all (now : Int) (l : List Msg) : keepM now (l.take l.length) = keepM now l := by rw [List.take_length]
theorem msg_one (m : Msg) (A : Option Addr) (n c : Nat) : ∀ u ∈ kMsg.hd m (.slice A n c), u.oneCell' = true := by
  intro u hu
  simp [kMsg] at hu
  rcases hu with rfl | rfl | rfl | rfl <;> rfl
set_option maxHeartbeats 1000000 in
theorem sExpM (w : World) (A : Option Addr) (n c : Nat) (d now : Int) (l : List Msg) (hn : l.length = n) (hM : Els w A 4 (kE kMsg) l) (hb : ∀ m ∈ l, m.body.length ≤ 1048576) (hl : n ≤ 1048576) :
    Calls Try.prog 34 #[.agg #[.slice A n c, .int .i64 d], .int .i64 now] w fun e w' => ∃ A' c', e = .returned (.agg #[.slice A' (keepM now l).length c', .int .i64 (dropM now d l)]) ∧ Ext w w' ∧ Own kMsg w' w.heap.size w'.heap.size A' (keepM now l) := by
  subst hn
  have hM' := Lib.hid hM
  have hb' := Lib.hid hb
  have hE0 := Lib.hid (Ext.refl (((w.alloc (.cells #[.slice A l.length c, .int .i64 d] 54)).alloc (.cells #[.slice none 0 0, .int .i64 0] 54)).alloc (.cells #[.slice none 0 0, .int .i64 d] 54)))
  clear hM hb
  go_enter Try.func34, Try.ntmps34
  go_wp2
  go_loopw [6] (fun i wr => ∃ (k : Nat) (v : Value) (D : Int), k ≤ l.length ∧ i = .int .i64 k ∧ Hid (Ext (((w.alloc (.cells #[.slice A l.length c, .int .i64 d] 54)).alloc (.cells #[.slice none 0 0, .int .i64 0] 54)).alloc (.cells #[v, .int .i64 D] 54)) wr) ∧ Hid (AppR kMsg 71 wr (w.heap.size + 1 + 1) (fun x => x = w.heap.size + 1 + 1) v (keepM now (l.take k))) ∧ Hid (D = dropM now d (l.take k))) (fun i _ => l.length - (intOf i).toNat)
  case atStart => exact ⟨0, _, d, Nat.zero_le _, rfl, hE0, Lib.hid AppR.nil, Lib.hid rfl⟩
  case round =>
    obtain ⟨k, v, D, hk, rfl, hE, hA, hD⟩ := hrel
    clear hE0
    obtain ⟨x1, x2, x3⟩ := blk_cells (ext_blk (Ext.trans (Ext.trans (Ext.alloc_ _ _) (Ext.alloc_ _ _)) hE.out) (new_blk1 w _ _))
    obtain ⟨y1, y2, y3⟩ := blk_cells (ext_blk (Ext.trans (Ext.alloc_ _ _) hE.out) (new_blk2 w _ _ _))
    have hbox := hE.out.box
    simp only [World.size_alloc] at hbox
    obtain ⟨z1, z2, z3⟩ := blk_cells hbox
    have p0 := x1 0
    have q0 := y1 0
    have q1 := y1 1
    have r0 := z1 0
    have r1 := z1 1
    simp at p0 q0 q1 r0 r1
    have hbox' := Lib.hid hbox
    clear x1 y1 z1 hbox
    by_cases hlt : k < l.length
    · obtain ⟨b, off, rfl, hb, hc⟩ := (els_up hM'.out (Ext.trans (Ext.trans (Ext.trans (Ext.alloc_ _ _) (Ext.alloc_ _ _)) (Ext.alloc_ _ _)) hE.out)).at_ (List.ne_nil_of_length_pos (by omega))
      obtain ⟨B, cB, hRB, k0, k1, k2, k3⟩ := els_msg hc k hlt
      have hbl := hb'.out _ (List.getElem_mem hlt)
      have R := Lib.hid hRB
      clear hc hRB
      by_cases h1 : l[k].dl < now
      · go_wp2
        go_roundw
        case rel =>
          exact ⟨k + 1, v, wrap64 (D + 1), by omega, by go_num, Lib.hid (by
            have h := hE.out.boxSet 1 (.int .i64 (wrap64 (D + 1)))
            simp only [World.size_alloc] at h
            exact h), Lib.hid (by rw [keepM_no now l k hlt h1]; exact hA.out.set_ rfl _), Lib.hid (by rw [dropM_no now d l k hlt h1, ← hD.out])⟩
        case measure => simp [intOf]; omega
      · go_wp2_with fail
        refine (sMsgC _ _ _ _ _ _ _ l[k].body rfl R.out (by omega)).mono ?_
        rintro e w4 ⟨g', A', c', rfl, hE4, hN⟩
        have F4 := Lib.hid hE4
        have N4 := Lib.hid hN
        obtain ⟨z1, z2, z3⟩ := blk_cells (ext_blk hE4 hbox'.out)
        have r0 := z1 0
        have r1 := z1 1
        simp at r0 r1
        have hL := Lib.hid (cel_lit (w4.alloc (.cells #[.int .i64 l[k].to, .int .i64 l[k].cat, .int .i64 l[k].dl, .slice A' l[k].body.length c'] 71)) 71 #[.int .i64 l[k].to, .int .i64 l[k].cat, .int .i64 l[k].dl, .slice A' l[k].body.length c'])
        rw [World.size_alloc] at hL
        have hG := Lib.hid (Ext.trans F4.out (Ext.trans (Ext.alloc_ w4 (.cells #[.int .i64 l[k].to, .int .i64 l[k].cat, .int .i64 l[k].dl, .slice A' l[k].body.length c'] 71)) (Ext.alloc_ _ (.cells #[.int .i64 l[k].to, .int .i64 l[k].cat, .int .i64 l[k].dl, .slice A' l[k].body.length c'] 71))))
        have hel := Lib.hid (((N4.out.mono (B' := w.heap.size + 1 + 1) (by omega)).el (K := kMsg) (x := l[k])).ext (Ext.trans (Ext.alloc_ w4 (.cells #[.int .i64 l[k].to, .int .i64 l[k].cat, .int .i64 l[k].dl, .slice A' l[k].body.length c'] 71)) (Ext.alloc_ _ (.cells #[.int .i64 l[k].to, .int .i64 l[k].cat, .int .i64 l[k].dl, .slice A' l[k].body.length c'] 71))))
        have hkl := keepM_len now l k
        have hsz := Lib.hid hG.out.size
        have hone := Lib.hid (msg_one l[k] A' l[k].body.length c')
        clear hE4 hN z1 x2 x3 y2 y3 p0 q0 q1
        go_wp2_with (at_builtin; refine wpPush (K := kMsg) (.tmp 37) (.tmp 39) elMsg rfl rfl (w.heap.size + 1 + 1) (w1 := ((w.alloc (.cells #[.slice (some ⟨b, off, none⟩) l.length c, .int .i64 d] 54)).alloc (.cells #[.slice none 0 0, .int .i64 0] 54))) v (keepM now (l.take k)) rfl hA.out hG.out _ _ l[k] g' A' c' rfl hL.out (by simp) hone.out hel.out N4.out.2.2.1 (fun x hx => by rw [hx]; omega) (by unfold maxLen; omega) (by omega) (by have := hsz.out; omega) (Ext.trans (Ext.trans (Ext.alloc_ _ _) hE.out) hG.out) (by simp) ?_)
        intro v' w' hA' hE' hX'
        obtain ⟨A2, c2, hv, -⟩ := hA'.own
        obtain ⟨n2, hn2⟩ : ∃ n2, (keepM now (l.take k) ++ [l[k]]).length = n2 := ⟨_, rfl⟩
        rw [hn2] at hv
        subst hv
        clear hn2
        have hbx := Lib.hid (hX'.trans (ext_blk hG.out hbox'.out))
        obtain ⟨z1, z2, z3⟩ := blk_cells hbx.out
        have r0' := z1 0
        simp at r0'
        have K1 := Lib.hid (Ext.snoc hE' (by simpa using hbx.out))
        have A1 := Lib.hid hA'
        clear hL hG hel hsz hone hX' hE' z1 hA' hkl r0 r1 k0 k1 k2 k3
        go_wp2
        go_roundw
        case rel =>
          exact ⟨k + 1, .slice A2 n2 c2, D, by omega, by go_num, Lib.hid (by
            have h := K1.out.boxSet 0 (.slice A2 n2 c2)
            simp only [World.size_alloc] at h
            exact h), Lib.hid (by rw [keepM_yes now l k hlt (by omega)]; exact A1.out.set_ rfl _), Lib.hid (by rw [dropM_yes now d l k hlt (by omega), ← hD.out])⟩
        case measure => simp [intOf]; omega
    · obtain rfl : k = l.length := by omega
      have hA1 := hA.out
      have hD1 := hD.out
      rw [List.take_length] at hA1 hD1
      obtain ⟨A', c', rfl, -, -, hO, -⟩ := hA1.own
      have hO' := Lib.hid hO
      have hD' := Lib.hid hD1
      clear hA hA1 hD hD1 hO
      go_wp2_with fail
      refine bodyPost_ret (v := .agg #[.slice A' (keepM now l).length c', .int .i64 D]) (by clear r0 r1 p0 x2 x3 z2 z3 hO' hD' hE hbox' hM' hb'; simp [results, Try.results34, go_sem, q0, q1, y2, y3]) rfl ⟨A', c', by rw [hD'.out], ?_, ?_⟩
      · iterate 2 refine Ext.setCell_ ?_ (by simp <;> omega) _
        exact Ext.trans (Ext.trans (Ext.trans (Ext.alloc_ _ _) (Ext.alloc_ _ _)) (Ext.alloc_ _ _)) hE.out
      · refine Own.mono (B := w.heap.size + 1 + 1) (C := wr.heap.size) ?_ (by omega) (by simp)
        iterate 2 refine Own.set_ ?_ (by simp <;> omega) _
        exact hO'.out
end Go.Proofs.Ytcjppmihmfcagaa
