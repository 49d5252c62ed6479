/- Reassemblies that have expired are dropped. -/
import Derived.Test.YtkmklafjcjkpdaaCpy
namespace Go.Proofs.Ytkmklafjcjkpdaa
open Go.RowKit
set_option linter.unusedVariables false
set_option linter.unusedSimpArgs false

def keepR (now : Int) (l : List Rea) : List Rea := l.filter fun m => decide (now ≤ wrap64 (m.st + 50))
theorem keepR_no (now : Int) (l : List Rea) (k : Nat) (hk : k < l.length) (h : ¬ now ≤ wrap64 (l[k].st + 50)) : keepR now (l.take (k + 1)) = keepR now (l.take k) := by
  unfold keepR
  rw [take_snoc_get l k hk, List.filter_append]
  simp [h]
theorem keepR_yes (now : Int) (l : List Rea) (k : Nat) (hk : k < l.length) (h : now ≤ wrap64 (l[k].st + 50)) : keepR now (l.take (k + 1)) = keepR now (l.take k) ++ [l[k]] := by
  unfold keepR
  rw [take_snoc_get l k hk, List.filter_append]
  simp [h]
theorem keepR_len (now : Int) (l : List Rea) (k : Nat) : (keepR now (l.take k)).length ≤ l.length := by
  unfold keepR
  exact Nat.le_trans (List.length_filter_le _ _) (by simp; omega)
theorem rea_one (m : Rea) (A : Option Addr) (n c : Nat) : ∀ u ∈ kRea.hd m (.slice A n c), u.oneCell' = true := by
  intro u hu
  simp [kRea] at hu
  rcases hu with rfl | rfl | rfl | rfl | rfl <;> rfl
/-- A row of one element: what another row may take from it. -/
theorem AppR.one {α : Type} {K : Kind α} {T : TypeId} {w : World} {B : Nat} {X : Nat → Prop} {v : Value} {x : α} (h : AppR K T w B X v [x]) : ∃ G cap g A c, v = .slice (some ⟨G, 0, none⟩) 1 cap ∧ Cel w (some ⟨G, 0, none⟩) (K.hd x (.slice A (K.bd x).length c)) ∧ (⟨x, g, A, c⟩ : El α).new K w B ∧ B ≤ g := by
  obtain ⟨es, h1, h2, hx, h3⟩ := h
  obtain ⟨e, rfl⟩ : ∃ e, es = [e] := by
    have := congrArg List.length h3
    simp at this
    exact List.length_eq_one_iff.1 this
  simp at h3
  subst h3
  obtain ⟨hl, h1⟩ := h1
  rcases h1 with ⟨rfl, h0⟩ | ⟨G, cap, cur, rfl, hB, hg, hc, hm, hs, ht⟩
  · simp at h0
  · obtain ⟨q1, q2, q3⟩ := (h2 G rfl).2.1 e (by simp)
    have hrow : rowOf K [e] = K.hd e.x (.slice e.A (K.bd e.x).length e.c) := by simp [rowOf, El.cells]
    refine ⟨G, cap, if K.bd e.x = [] then B else e.g, e.A, e.c, rfl, ?_, ⟨q1, q2, ?_⟩, ?_⟩
    · refine .inr ⟨G, 0, rfl, heap_lt hg, fun j u hu => ?_⟩
      obtain ⟨b1, _, _⟩ := blk_cells hg
      rw [Nat.zero_add, b1]
      rw [← hrow, ← ht] at hu
      have hj : j < 1 * K.size := by
        rcases Nat.lt_or_ge j (1 * K.size) with h | h
        · exact h
        · rw [List.getElem?_eq_none (by simp; omega)] at hu
          cases hu
      rw [List.getElem?_take_of_lt (by simpa using hj)] at hu
      simpa using hu
    · by_cases h0 : K.bd e.x = []
      · exact .inl h0
      · obtain ⟨a, b, c, d, f⟩ := q3.resolve_left h0
        simp only [h0, if_false]
        exact .inr ⟨a, b, c, f⟩
    · split
      · exact Nat.le_refl _
      · rename_i h0
        exact (q3.resolve_left h0).2.1
set_option maxHeartbeats 1000000 in
theorem iExpR (w : World) (A : Option Addr) (n c : Nat) (now : Int) (l : List Rea) (hn : l.length = n) (hM : Els w A 5 (kE kRea) l) (hb : ∀ m ∈ l, m.body.length ≤ 1048576) (hl : n ≤ 1048577) :
    Calls Try.prog 88 #[.slice A n c, .int .i64 now] w fun e w' => ∃ A' c', e = .returned (.slice A' (keepR now l).length c') ∧ Ext w w' ∧ Own kRea w' w.heap.size w'.heap.size A' (keepR now l) := by
  subst hn
  have hM' := Lib.hid hM
  have hb' := Lib.hid hb
  have hA0 := Lib.hid (AppR.lit0 (K := kRea) (T := 114) (w := w) (X := fun _ => False) (Nat.le_refl _) (fun h => h))
  clear hM hb
  go_enter Try.func88, Try.ntmps88
  go_wp2
  go_loopw [5, 11] (fun sv i wr => ∃ (k : Nat) (v : Value), k ≤ l.length ∧ i = .int .i64 k ∧ v = sv ∧ Hid (Ext w wr) ∧ Hid (AppR kRea 114 wr w.heap.size (fun _ => False) v (keepR now (l.take k)))) (fun _ i _ => l.length - (intOf i).toNat)
  case atStart => exact ⟨0, _, Nat.zero_le _, rfl, rfl, Lib.hid (Ext.alloc_ _ _), hA0⟩
  case round =>
    obtain ⟨k, v, hk, rfl, rfl, hE, hA⟩ := hrel
    clear hA0
    by_cases hlt : k < l.length
    · obtain ⟨b, off, rfl, hb, hc⟩ := (els_up hM'.out hE.out).at_ (List.ne_nil_of_length_pos (by omega))
      obtain ⟨B, cB, hRB, k0, k1, k2, k3, k4⟩ := els_rea hc k hlt
      have hbl := hb'.out _ (List.getElem_mem hlt)
      have R := Lib.hid (hRB.ext (Ext.alloc_ wr (.cells #[.int .i64 l[k].frm, .int .i64 l[k].sq, .int .i64 l[k].nx, .slice B l[k].body.length cB, .int .i64 l[k].st] 114)))
      clear hc hRB
      by_cases h1 : now ≤ wrap64 (l[k].st + 50)
      · go_wp2_with fail
        refine (iCopyB _ _ _ _ l[k].body rfl R.out (by omega)).mono ?_
        rintro e w1 ⟨g, A', c', rfl, hE1, hN⟩
        obtain ⟨x1, x2, x3⟩ := blk_cells (ext_blk hE1 (new_blk1 wr _ _))
        have p0 := x1 0
        have p1 := x1 1
        have p2 := x1 2
        have p3 := x1 3
        have p4 := x1 4
        simp at p0 p1 p2 p3 p4
        rw [World.size_alloc] at hN
        have F1 := Lib.hid ((Ext.trans (Ext.alloc_ _ _) hE1).setCell_ (p := ⟨wr.heap.size, 3, none⟩) (Nat.le_refl _) (.slice A' l[k].body.length c'))
        have N1 := Lib.hid (hN.set_ (p := ⟨wr.heap.size, 3, none⟩) (by simp) (.slice A' l[k].body.length c'))
        have hL := Lib.hid (cel_lit (w1.setCell ⟨wr.heap.size, 3, none⟩ (.slice A' l[k].body.length c')) 114 #[.int .i64 l[k].frm, .int .i64 l[k].sq, .int .i64 l[k].nx, .slice A' l[k].body.length c', .int .i64 l[k].st])
        rw [World.size_setCell] at hL
        have hG := Lib.hid (Ext.trans F1.out (Ext.alloc_ _ (.cells #[.int .i64 l[k].frm, .int .i64 l[k].sq, .int .i64 l[k].nx, .slice A' l[k].body.length c', .int .i64 l[k].st] 114)))
        have hel := Lib.hid (((N1.out.mono (B' := w.heap.size) (by have := hE.out.size; omega)).el (K := kRea) (x := l[k])).ext (Ext.alloc_ _ (.cells #[.int .i64 l[k].frm, .int .i64 l[k].sq, .int .i64 l[k].nx, .slice A' l[k].body.length c', .int .i64 l[k].st] 114)))
        have hgg := Lib.hid (show wr.heap.size ≤ g by have := N1.out.2.2.1; omega)
        have hone := Lib.hid (rea_one l[k] A' l[k].body.length c')
        have hkl := keepR_len now l k
        have hsz := Lib.hid (show w.heap.size ≤ w1.heap.size by have := hE.out.size; have := hE1.size; simp at *; omega)
        clear hE1 hN x1
        go_wp2_with (at_builtin; refine wpPush (K := kRea) (.tmp 24) (.tmp 26) elRea rfl rfl w.heap.size (w1 := w) v (keepR now (l.take k)) rfl hA.out hG.out _ _ l[k] g A' c' rfl hL.out (by simp) hone.out hel.out hgg.out (fun x hx => hx.elim) (by unfold maxLen; omega) (by omega) (by have := hsz.out; simp; omega) (Ext.trans hE.out hG.out) (Nat.le_refl _) ?_)
        intro v' w' hA' hE'
        have K1 := Lib.hid hE'
        have A1 := Lib.hid hA'
        clear hL hG hel hone hE' hA' p0 p1 p2 p3 p4 F1 N1 hgg hsz k0 k1 k2 k3 k4 hkl
        go_wp2
        go_roundw
        case rel => exact ⟨k + 1, _, by omega, by go_num, rfl, K1, Lib.hid (by rw [keepR_yes now l k hlt h1]; exact A1.out)⟩
        case measure => simp [intOf]; omega
      · go_wp2
        go_roundw
        case rel => exact ⟨k + 1, _, by omega, by go_num, rfl, Lib.hid (Ext.trans hE.out (Ext.alloc_ _ _)), Lib.hid (by rw [keepR_no now l k hlt (by omega)]; exact hA.out.ext (Ext.alloc_ _ _))⟩
        case measure => simp [intOf]; omega
    · obtain rfl : k = l.length := by omega
      have hA1 := hA.out
      rw [List.take_length] at hA1
      obtain ⟨A', c', rfl, -, -, hO, -⟩ := hA1.own
      have hO' := Lib.hid hO
      clear hA1 hA hO
      go_wp2
      go_ret
      exact ⟨_, _, rfl, hE.out, hO'.out⟩
end Go.Proofs.Ytkmklafjcjkpdaa
