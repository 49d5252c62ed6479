/- Draws of bytes. -/
import Derived.Test.YtkmklafjcjkpdaaCpy
import Derived.Test.YtkmklafjcjkpdaaRegD
namespace Go.Proofs.Ytkmklafjcjkpdaa
open Go.RowKit
set_option linter.unusedVariables false
set_option linter.unusedSimpArgs false
theorem own_chg {w w' : World} {B : Nat} {e : TypeId} {size n : Nat} {v : Value} {xs : List Value} {S : Nat → Prop} (h : w.ownsRow B e size v n xs) (hc : Chg w w' S) (hS : ∀ y, B ≤ y → ¬ S y) : w'.ownsRow B e size v n xs := by
  refine ⟨h.1, h.2.imp_right ?_⟩
  rintro ⟨g, cap, cur, rfl, a, b, c⟩
  exact ⟨g, cap, cur, rfl, a, by rw [hc.block g (heap_lt b) (hS g a)]; exact b, c⟩
theorem Chg.grown {w w' : World} {row : Option Nat} (h : w.grownBy w' row) : Chg w w' (fun y => some y = row) := ⟨h.os, h.tape, h.output, h.size, fun b hb hne => h.block b hb hne⟩
theorem Cur.chg {w w' : World} {b : Nat} {S : Nat → Prop} (h : Cur w b) (hc : Chg w w' S) (hS : ∀ y, y ≤ b → ¬ S y) : Cur w' b := by
  obtain ⟨A, n, c, p, s, l, h1, h2, h3, h4, h5, h6, h7⟩ := h
  refine ⟨A, n, c, p, s, l, ?_, h2, h3.chg hc (fun h0 b' o hA => hS b' (Nat.le_of_lt (h7 h0 b' o hA))), h4, h5, h6, h7⟩
  rw [hc.block b (heap_lt h1) (hS b (Nat.le_refl _)), h1]
theorem Drawn.grown {a w w' : World} {b B : Nat} {v : Value} {e : TypeId} {size n : Nat} {xs : List Value} (h : Drawn a w b) (hg : w.grownBy w' v.ownBlock) (ho : w.ownsRow B e size v n xs) (hB : a.heap.size ≤ B) (hb : b < B) : Drawn a w' b := by
  have hrow : ∀ y, some y = v.ownBlock → B ≤ y := fun y hy => (World.ownsRow.lt ho y hy.symm).1
  refine ⟨⟨hg.os.trans h.1.os, hg.tape.trans h.1.tape, hg.output.trans h.1.output, Nat.le_trans h.1.size hg.size, fun y hy hne => ?_⟩, h.2.chg (Chg.grown hg) (fun y hy hS => by have := hrow y hS; omega)⟩
  rw [hg.block y (Nat.lt_of_lt_of_le hy h.1.size) (fun hS => by have := hrow y hS; omega)]
  exact h.1.block y hy hne
theorem u8_wrap {x : Int} (h : 0 ≤ x ∧ x ≤ 255) : IntKind.u8.wrap x = x := by
  rw [IntKind.wrap_u8]
  omega
set_option maxHeartbeats 1000000 in
theorem sBytes (w : World) (b : Nat) (n : Int) (hC : Cur w b) (hn : 0 ≤ n ∧ n ≤ 1000) :
    Calls Try.prog 136 #[.pointer (some ⟨b, 0, none⟩), .int .i64 n] w fun e w' => ∃ (g : Nat) (A : Option Addr) (c : Nat) (l : List Int), e = .returned (.slice A l.length c) ∧ (l.length : Int) = n ∧ (∀ x ∈ l, 0 ≤ x ∧ x ≤ 255) ∧ NewB w' w.heap.size g A c l ∧ Drawn w w' b := by
  have hlt := hC.lt
  have hO := World.ownsRow_lit (size := 1) (e := 5) (base := w.heap.size) w #[] 0 (Nat.le_refl _) (by unfold maxLen; omega) (by simp)
  have hO0 := Lib.hid hO
  have D0 := Lib.hid (Drawn.of_ext hC (Ext.alloc_ w (.cells #[] 5)))
  clear hO hC
  go_enter Try.func136, Try.ntmps136
  go_wp2_with fail
  go_loopw [5, 6] (fun v i wr => ∃ l : List Int, (l.length : Int) ≤ n ∧ i = .int .i64 l.length ∧ Hid (∀ x ∈ l, 0 ≤ x ∧ x ≤ 255) ∧ Hid (wr.ownsRow w.heap.size 5 1 v l.length (l.map (Value.int .u8))) ∧ Hid (Drawn w wr b)) (fun _ i _ => (n - intOf i).toNat)
  case atStart => exact ⟨[], by simpa using hn.1, rfl, Lib.hid (by simp), Lib.hid (by simpa using hO0.out), D0⟩
  case round =>
    clear hO0 D0
    obtain ⟨l, hk, rfl, hb, hO, hD⟩ := hrel
    by_cases hlt' : (l.length : Int) < n
    · go_wp2_with fail
      refine (sByte _ _ hD.out.2).mono ?_
      rintro e w5 ⟨x, rfl, hx, h1, h2⟩
      have hw := u8_wrap hx
      have e5 := Ext.alloc_ w5 (.cells #[.int .u8 x] 5)
      have D5 := Lib.hid ((hD.out.trans ⟨h1, h2⟩).ext e5)
      have O5 := Lib.hid (Ext.own e5 (own_chg hO.out h1 (fun y hy hS => by omega)))
      have hB := Lib.hid (show ∀ y ∈ l ++ [x], 0 ≤ y ∧ y ≤ 255 by
        intro y hy
        rcases List.mem_append.1 hy with h | h
        · exact hb.out y h
        · simp at h
          subst h
          exact hx)
      have hL := Lib.hid (cel_lit w5 5 #[.int .u8 x])
      have hsz : w.heap.size ≤ w5.heap.size := Nat.le_trans hD.out.1.size h1.size
      clear h1 h2 hD hO hb e5 hx
      go_wp2_with (at_builtin; refine wpApp (.tmp 13) (.tmp 17) elByte rfl rfl w.heap.size _ _ _ rfl O5.out _ _ _ _ rfl hL.out (by simp) (fun h => by simp at h) (by simp [Value.oneCell']) (by unfold maxLen; omega) (by omega) (by simp <;> omega) ?_)
      intro v1 w6 hO1 hg1 _
      have D6 := Lib.hid (Drawn.grown D5.out hg1 O5.out (Nat.le_refl _) hlt)
      have O6 := Lib.hid hO1
      clear hO1 hg1 O5 D5 hL
      go_wp2_with fail
      go_roundw
      case rel => exact ⟨l ++ [x], by simp; omega, by simp, hB, Lib.hid (by simpa using O6.out), D6⟩
      case measure => simp [intOf]; omega
    · obtain ⟨g, A, c, rfl, hN⟩ := NewB.of_own hO.out hD.out.1.size
      have HN := Lib.hid hN
      clear hN
      go_wp2_with fail
      go_ret
      exact ⟨g, A, c, l, rfl, by omega, hb.out, HN.out, hD.out⟩
end Go.Proofs.Ytkmklafjcjkpdaa
