/- A fragment is added to a list of reassemblies: the parts. -/
import Derived.Test.YtkmklafjcjkpdaaExpR
import Derived.Test.YtkmklafjcjkpdaaSt
import Derived.Test.YtkmklafjcjkpdaaFrg
namespace Go.Proofs.Ytkmklafjcjkpdaa
open Go.RowKit
set_option linter.unusedVariables false
set_option linter.unusedSimpArgs false
theorem iFnd0 (w : World) (A : Option Addr) (c : Nat) (fx : Int) :
    Calls Try.prog 139 #[.slice A 0 c, .int .i64 fx] w fun e w' => e = .returned (.int .i64 (-1)) ∧ Ext w w' := by
  go_enter Try.func139, Try.ntmps139
  go_wp2_with fail
  go_loopw [9] (fun i wr => i = .int .i64 0 ∧ wr = w) (fun _ _ => 0)
  case atStart => exact ⟨rfl, rfl⟩
  case round =>
    obtain ⟨rfl, rfl⟩ := hrel
    go_wp2_with fail
    go_ret
    exact ⟨rfl, Ext.refl _⟩
theorem iFnd1 (w : World) (A : Option Addr) (c : Nat) (m : Rea) (fx : Int) (hm : m.frm = fx) (hM : Els w A 5 (kE kRea) [m]) :
    Calls Try.prog 139 #[.slice A 1 c, .int .i64 fx] w fun e w' => e = .returned (.int .i64 0) ∧ Ext w w' := by
  obtain ⟨b, off, rfl, hb, hc⟩ := hM.at_ (by simp)
  obtain ⟨B, cB, hRB, k0, k1, k2, k3, k4⟩ := els_rea hc 0 (by simp)
  simp only [Nat.zero_mul, Nat.add_zero, List.getElem_cons_zero] at k0 k1 k2 k3 k4
  subst hm
  clear hc hM hRB
  go_enter Try.func139, Try.ntmps139
  go_wp2_with fail
  go_loopw [9] (fun i wr => i = .int .i64 0 ∧ wr = w) (fun _ _ => 0)
  case atStart => exact ⟨rfl, rfl⟩
  case round =>
    obtain ⟨rfl, rfl⟩ := hrel
    go_wp2_with fail
    go_ret
    exact ⟨rfl, Ext.alloc_ _ _⟩
set_option maxHeartbeats 1000000 in
theorem iCpA (w : World) (A : Option Addr) (n c : Nat) (l : List Rea) (hn : l.length = n) (hM : Els w A 5 (kE kRea) l) (hb : ∀ m ∈ l, m.body.length ≤ 1048576) (hl : n ≤ 1048576) :
    Calls Try.prog 140 #[.slice A n c, .int .i64 (-1)] w fun e w' => ∃ v, e = .returned v ∧ Ext w w' ∧ AppR kRea 114 w' w.heap.size (fun _ => False) v l := by
  subst hn
  have hM' := Lib.hid hM
  have hb' := Lib.hid hb
  obtain ⟨cs, hcs, hmk0⟩ := make_cap elRea (l.length + 1) (by omega) (by omega)
  have hmk : ∀ W : World, (Instr.makeSlice 107 (.int .i64 0) (.int .i64 ((l.length : Int) + 1))).run Try.prog W = .ok (.slice (some ⟨W.heap.size, 0, none⟩) 0 (l.length + 1)) (W.alloc (.cells cs 114)) := by
    intro W
    have := hmk0 W
    simpa using this
  have hA0 := Lib.hid (AppR.made (K := kRea) (T := 114) (w := w) (B := w.heap.size) (X := fun _ => False) (cap := l.length + 1) (cs := cs) (Nat.le_refl _) (fun h => h) (by unfold maxLen; omega) hcs)
  have hwn : IntKind.i64.wrap ((l.length : Int) + 1) = (l.length : Int) + 1 := IntWalk.i64_in _ (by omega)
  clear hcs hmk0
  clear hM hb
  go_enter Try.func140, Try.ntmps140
  go_wp2
  go_loopw [5, 14] (fun sv i wr => ∃ (k : Nat) (v : Value), k ≤ l.length ∧ i = .int .i64 k ∧ v = sv ∧ Hid (Ext w wr) ∧ Hid (AppR kRea 114 wr w.heap.size (fun _ => False) v (l.take k))) (fun _ i _ => l.length - (intOf i).toNat)
  case atStart => exact ⟨0, _, Nat.zero_le _, rfl, rfl, Lib.hid (Ext.alloc_ _ _), hA0⟩
  case round =>
    obtain ⟨k, v, hk, rfl, rfl, hE, hA⟩ := hrel
    clear hA0 hmk
    by_cases hlt : k < l.length
    · obtain ⟨b, off, rfl, hb, hc⟩ := (els_up hM'.out hE.out).at_ (List.ne_nil_of_length_pos (by omega))
      obtain ⟨B, cB, hRB, k0, k1, k2, k3, k4⟩ := els_rea hc k hlt
      have hbl := hb'.out _ (List.getElem_mem hlt)
      have R := Lib.hid (hRB.ext (Ext.alloc_ wr (.cells #[.int .i64 l[k].frm, .int .i64 l[k].sq, .int .i64 l[k].nx, .slice B l[k].body.length cB, .int .i64 l[k].st] 114)))
      clear hc hRB
      · have hk1 : ¬ ((k : Int) = -1) := by omega
        go_wp2_with fail
        refine (iCopyB _ _ _ _ l[k].body rfl R.out (by omega)).mono ?_
        rintro e w1 ⟨g, A', c', rfl, hE1, hN⟩
        obtain ⟨x1, x2, x3⟩ := blk_cells (ext_blk hE1 (new_blk1 wr _ _))
        have p0 := x1 0
        have p1 := x1 1
        have p2 := x1 2
        have p3 := x1 3
        have p4 := x1 4
        simp at p0 p1 p2 p3 p4
        rw [World.size_alloc] at hN
        have F1 := Lib.hid ((Ext.trans (Ext.alloc_ _ _) hE1).setCell_ (p := ⟨wr.heap.size, 3, none⟩) (Nat.le_refl _) (.slice A' l[k].body.length c'))
        have N1 := Lib.hid (hN.set_ (p := ⟨wr.heap.size, 3, none⟩) (by simp) (.slice A' l[k].body.length c'))
        have hL := Lib.hid (cel_lit (w1.setCell ⟨wr.heap.size, 3, none⟩ (.slice A' l[k].body.length c')) 114 #[.int .i64 l[k].frm, .int .i64 l[k].sq, .int .i64 l[k].nx, .slice A' l[k].body.length c', .int .i64 l[k].st])
        rw [World.size_setCell] at hL
        have hG := Lib.hid (Ext.trans F1.out (Ext.alloc_ _ (.cells #[.int .i64 l[k].frm, .int .i64 l[k].sq, .int .i64 l[k].nx, .slice A' l[k].body.length c', .int .i64 l[k].st] 114)))
        have hel := Lib.hid (((N1.out.mono (B' := w.heap.size) (by have := hE.out.size; omega)).el (K := kRea) (x := l[k])).ext (Ext.alloc_ _ (.cells #[.int .i64 l[k].frm, .int .i64 l[k].sq, .int .i64 l[k].nx, .slice A' l[k].body.length c', .int .i64 l[k].st] 114)))
        have hgg := Lib.hid (show wr.heap.size ≤ g by have := N1.out.2.2.1; omega)
        have hone := Lib.hid (rea_one l[k] A' l[k].body.length c')
        have hkl : (l.take k).length ≤ l.length := by simp; omega
        have hsz := Lib.hid (show w.heap.size ≤ w1.heap.size by have := hE.out.size; have := hE1.size; simp at *; omega)
        clear hE1 hN x1
        go_wp2_with (at_builtin; refine wpPush (K := kRea) (.tmp 26) (.tmp 28) elRea rfl rfl w.heap.size (w1 := w) v (l.take k) rfl hA.out hG.out _ _ l[k] g A' c' rfl hL.out (by simp) hone.out hel.out hgg.out (fun x hx => hx.elim) (by unfold maxLen; omega) (by omega) (by have := hsz.out; simp; omega) (Ext.trans hE.out hG.out) (Nat.le_refl _) ?_)
        intro v' w' hA' hE'
        have K1 := Lib.hid hE'
        have A1 := Lib.hid hA'
        clear hL hG hel hone hE' hA' p0 p1 p2 p3 p4 F1 N1 hgg hsz k0 k1 k2 k3 k4 hkl
        go_wp2
        go_roundw
        case rel => exact ⟨k + 1, _, by omega, by go_num, rfl, K1, Lib.hid (by have h := A1.out; first | exact h | (rw [take_snoc_get l k hlt]; exact h))⟩
        case measure => simp [intOf]; omega
    · obtain rfl : k = l.length := by omega
      have hA1 := hA.out
      rw [List.take_length] at hA1
      have hA2 := Lib.hid hA1
      clear hA1 hA
      go_wp2
      go_ret
      exact ⟨_, rfl, hE.out, hA2.out⟩
set_option maxHeartbeats 1000000 in
theorem iCpB (w : World) (A : Option Addr) (c : Nat) (m : Rea) (hM : Els w A 5 (kE kRea) [m]) :
    Calls Try.prog 140 #[.slice A 1 c, .int .i64 0] w fun e w' => ∃ v, e = .returned v ∧ Ext w w' ∧ AppR kRea 114 w' w.heap.size (fun _ => False) v [] := by
  obtain ⟨cs, hcs, hmk⟩ := make_cap elRea 2 (by omega) (by omega)
  simp only [show ((2 : Nat) : Int) = 2 from rfl] at hmk
  have hA0 := Lib.hid (AppR.made (K := kRea) (T := 114) (w := w) (B := w.heap.size) (X := fun _ => False) (cap := 2) (cs := cs) (Nat.le_refl _) (fun h => h) (by unfold maxLen; omega) hcs)
  obtain ⟨b, off, rfl, hb, hc⟩ := hM.at_ (by simp)
  obtain ⟨B, cB, hRB, k0, k1, k2, k3, k4⟩ := els_rea hc 0 (by simp)
  simp only [Nat.zero_mul, Nat.add_zero, List.getElem_cons_zero] at k0 k1 k2 k3 k4
  clear hc hM hRB hcs
  go_enter Try.func140, Try.ntmps140
  go_wp2_with fail
  go_loopw [5, 14] (fun sv i wr => ∃ k : Nat, k ≤ 1 ∧ i = .int .i64 k ∧ Hid (Ext w wr) ∧ Hid (AppR kRea 114 wr w.heap.size (fun _ => False) sv [])) (fun _ i _ => 1 - (intOf i).toNat)
  case atStart => exact ⟨0, by omega, rfl, Lib.hid (Ext.alloc_ _ _), hA0⟩
  case round =>
    obtain ⟨k, hk, rfl, hE, hA⟩ := hrel
    clear hA0 hmk
    by_cases hlt : k < 1
    · obtain rfl : k = 0 := by omega
      obtain ⟨hcq, hfq⟩ := bcell hE.out
      go_wp2_with fail
      go_roundw
      case rel => exact ⟨1, by omega, by go_num, Lib.hid (Ext.trans hE.out (Ext.alloc_ _ _)), Lib.hid (hA.out.ext (Ext.alloc_ _ _))⟩
      case measure => simp [intOf]
    · obtain rfl : k = 1 := by omega
      go_wp2_with fail
      go_ret
      exact ⟨_, rfl, hE.out, hA.out⟩
end Go.Proofs.Ytkmklafjcjkpdaa
