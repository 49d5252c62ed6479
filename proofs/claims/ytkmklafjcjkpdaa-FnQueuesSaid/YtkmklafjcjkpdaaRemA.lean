/- RememberFrame of the reference: the new list's row may be appended to. -/
import Derived.Test.YtkmklafjcjkpdaaRem
namespace Go.Proofs.Ytkmklafjcjkpdaa
open Go.RowKit
set_option linter.unusedVariables false
set_option linter.unusedSimpArgs false
theorem rowS_cons (s : Seen) (l : List Seen) : rowS (s :: l) = .int .i64 s.frm :: .int .i64 s.cat :: .int .i64 s.sq :: .int .i64 s.fr :: rowS l := by
  simp [rowS, rowOf, El.cells, kSeen]
theorem rowS_set : ∀ (l : List Seen) (k : Nat) (a b c d : Int), ((((rowS l).set (k * 4) (.int .i64 a)).set (k * 4 + 1) (.int .i64 b)).set (k * 4 + 2) (.int .i64 c)).set (k * 4 + 3) (.int .i64 d) = rowS (l.set k ⟨a, b, c, d⟩)
  | [], k, a, b, c, d => by simp [rowS, rowOf]
  | s :: l, 0, a, b, c, d => by simp [rowS_cons]
  | s :: l, k + 1, a, b, c, d => by
    have h := rowS_set l k a b c d
    rw [List.set_cons_succ, rowS_cons, rowS_cons, ← h, show (k + 1) * 4 = k * 4 + 1 + 1 + 1 + 1 by omega]
    simp only [List.set_cons_succ, show k * 4 + 1 + 1 + 1 + 1 + 1 = (k * 4 + 1) + 1 + 1 + 1 + 1 by omega, show k * 4 + 1 + 1 + 1 + 1 + 2 = (k * 4 + 2) + 1 + 1 + 1 + 1 by omega, show k * 4 + 1 + 1 + 1 + 1 + 3 = (k * 4 + 3) + 1 + 1 + 1 + 1 by omega]
theorem rowOf_seen (es : List (El Seen)) : rowOf kSeen es = rowS (es.map (·.x)) := by
  induction es with
  | nil => rfl
  | cons e es ih =>
    rw [List.map_cons, rowS_cons, ← ih]
    simp [rowOf, El.cells, kSeen]
theorem AppR.row {T : TypeId} {w : World} {B : Nat} {X : Nat → Prop} {v : Value} {l : List Seen} (h : AppR kSeen T w B X v l) : w.ownsRow B T 4 v l.length (rowS l) := by
  obtain ⟨es, h1, h2, h3, rfl⟩ := h
  rw [rowOf_seen, show kSeen.size = 4 from rfl] at h1
  rw [List.length_map]
  exact h1
theorem own_base {w : World} {B B' : Nat} {T : TypeId} {size n : Nat} {v : Value} {xs : List Value} (h : w.ownsRow B T size v n xs) (hB : B' ≤ B) : w.ownsRow B' T size v n xs := by
  refine ⟨h.1, h.2.imp_right ?_⟩
  rintro ⟨g, cap, cur, a, b, c⟩
  exact ⟨g, cap, cur, a, by omega, c⟩
theorem own_set {w : World} {B G : Nat} {T : TypeId} {size n c : Nat} {xs : List Value} (h : w.ownsRow B T size (.slice (some ⟨G, 0, none⟩) n c) n xs) {j : Nat} (hj : j < n * size) (u : Value) : (w.setCell ⟨G, j, none⟩ u).ownsRow B T size (.slice (some ⟨G, 0, none⟩) n c) n (xs.set j u) := by
  refine ⟨by simpa using h.1, ?_⟩
  rcases h.2 with ⟨h1, _⟩ | ⟨g, cap, cur, h1, h2, h3, h4, h5, h6, h7⟩
  · cases h1
  · injection h1 with q1 q2 q3
    injection q1 with q1
    injection q1 with q1
    subst q1 q3
    refine .inr ⟨G, c, _, rfl, h2, blk_set h3 j u, h4, h5, by simpa using h6, ?_⟩
    rw [Array.toList_setIfInBounds, List.take_set, h7]
set_option maxHeartbeats 1000000 in
theorem sRemA (w : World) (kd fm to sq fr : Int) (mo re : Bool) (du : Int) (A A0 : Option Addr) (n c n0 c0 : Nat) (ca : Int) (l : List Seen) (hn : l.length = n0) (hM : Els w A0 4 (kE kSeen) l) (hA0 : A0 = none → c0 = 0) (hl : n0 ≤ 1048576) :
    Calls Try.prog 159 #[.slice A0 n0 c0, .agg #[.int .i64 kd, .int .i64 fm, .int .i64 to, .int .i64 sq, .int .i64 fr, .bool mo, .bool re, .int .i64 du, .slice A n c], .int .i64 ca] w fun e w' => ∃ v, e = .returned v ∧ Ext w w' ∧ w'.ownsRow w.heap.size 131 4 v (remS l fm sq fr ca).length (rowS (remS l fm sq fr ca)) := by
  subst hn
  have hM' := Lib.hid (els_up hM (Ext.alloc_ w (.cells #[.int .i64 kd, .int .i64 fm, .int .i64 to, .int .i64 sq, .int .i64 fr, .bool mo, .bool re, .int .i64 du, .slice A n c] 66)))
  have E0 := Lib.hid (Ext.alloc_ w (.cells #[.int .i64 kd, .int .i64 fm, .int .i64 to, .int .i64 sq, .int .i64 fr, .bool mo, .bool re, .int .i64 du, .slice A n c] 66))
  have b1 := Lib.hid (new_blk1 w #[.int .i64 kd, .int .i64 fm, .int .i64 to, .int .i64 sq, .int .i64 fr, .bool mo, .bool re, .int .i64 du, .slice A n c] 66)
  have hOw := World.ownsRow_lit (size := 4) (e := 131) (base := w.heap.size + 1) (w.alloc (.cells #[.int .i64 kd, .int .i64 fm, .int .i64 to, .int .i64 sq, .int .i64 fr, .bool mo, .bool re, .int .i64 du, .slice A n c] 66)) #[] 0 (by simp) (by unfold maxLen; omega) (by simp)
  simp only [World.size_alloc] at hOw
  have hC := Lib.hid ((els_cel hM).ext (Ext.trans (Ext.alloc_ w (.cells #[.int .i64 kd, .int .i64 fm, .int .i64 to, .int .i64 sq, .int .i64 fr, .bool mo, .bool re, .int .i64 du, .slice A n c] 66)) (Ext.alloc_ _ (.cells #[] 131))))
  have hone0 := Lib.hid (rowS_one l)
  have hln := Lib.hid (rowS_len l)
  have hAn := Lib.hid hA0
  have hOw' := Lib.hid hOw
  clear hM hOw
  rcases fnd_range l fm ca with hf | ⟨k, hk, hf, hkf, hkc⟩
  · have hR := Lib.hid (show remS l fm sq fr ca = l ++ [⟨fm, ca, sq, fr⟩] by unfold remS; rw [hf]; rfl)
    have hf' := Lib.hid hf
    clear hf
    go_enter Try.func159, Try.ntmps159
    go_wp2_with (at_builtin; refine wpApp (.tmp 10) (.tmp 11) elSeen rfl rfl (w.heap.size + 1) _ _ _ rfl hOw'.out _ _ _ _ rfl hC.out (by simpa using hln.out) hAn.out hone0.out (by unfold maxLen; omega) (by omega) (by simp <;> omega) ?_)
    intro v1 w1 hO1 hg1 _
    have H1 := Lib.hid (ext_grown (w0 := w.alloc (.cells #[.int .i64 kd, .int .i64 fm, .int .i64 to, .int .i64 sq, .int .i64 fr, .bool mo, .bool re, .int .i64 du, .slice A n c] 66)) (Ext.alloc_ _ _) hg1 hOw'.out (by simp))
    have hA1 := AppR.seen (T := 131) (l := l) (by simpa using hO1)
    obtain ⟨A1, c1, rfl, -, -, hO, -⟩ := hA1.own
    have F1 := Lib.hid hA1
    have O1 := Lib.hid hO.els
    obtain ⟨x1, x2, x3⟩ := blk_cells (ext_blk H1.out b1.out)
    have hMl := Lib.hid (els_up hM'.out H1.out)
    clear hO1 hg1 hA1 hO hC hOw'
    go_wp2_with fail
    refine (sFind _ _ _ _ l _ _ rfl hMl.out (by omega)).mono ?_
    rintro e w2 ⟨rfl, h2⟩
    rw [hf'.out]
    have F2 := Lib.hid h2
    clear h2 x1 x2 x3
    obtain ⟨x1, x2, x3⟩ := blk_cells (ext_blk (Ext.trans H1.out F2.out) b1.out)
    have p1 := x1 1
    have p3 := x1 3
    have p4 := x1 4
    simp at p1 p3 p4
    have hL := Lib.hid (cel_lit (w2.alloc (.cells #[.int .i64 fm, .int .i64 ca, .int .i64 sq, .int .i64 fr] 131)) 131 #[.int .i64 fm, .int .i64 ca, .int .i64 sq, .int .i64 fr])
    rw [World.size_alloc] at hL
    have hG := Lib.hid (Ext.trans F2.out (Ext.trans (Ext.alloc_ w2 (.cells #[.int .i64 fm, .int .i64 ca, .int .i64 sq, .int .i64 fr] 131)) (Ext.alloc_ _ (.cells #[.int .i64 fm, .int .i64 ca, .int .i64 sq, .int .i64 fr] 131))))
    have hone := Lib.hid (seen_one ⟨fm, ca, sq, fr⟩)
    have hsz := Lib.hid (show w.heap.size + 1 ≤ w1.heap.size ∧ w1.heap.size ≤ w2.heap.size from ⟨by have := H1.out.size; simpa using this, F2.out.size⟩)
    clear x1
    go_wp2_with (at_builtin; refine wpPush (K := kSeen) (.tmp 28) (.tmp 30) elSeen rfl rfl (w.heap.size + 1) (w1 := w.alloc (.cells #[.int .i64 kd, .int .i64 fm, .int .i64 to, .int .i64 sq, .int .i64 fr, .bool mo, .bool re, .int .i64 du, .slice A n c] 66)) _ l rfl F1.out hG.out _ _ ⟨fm, ca, sq, fr⟩ w1.heap.size none 0 rfl hL.out (by simp) hone.out (seen_new _) (Nat.le_refl _) (fun x hx => hx.elim) (by unfold maxLen; omega) (by omega) (by have := hsz.out; simp; omega) (Ext.trans H1.out hG.out) (by simp) ?_)
    intro v' w' hA' hE'
    have K1 := Lib.hid (Ext.trans E0.out hE')
    have O2 := Lib.hid (own_base hA'.row (B' := w.heap.size) (by omega))
    obtain ⟨A2, c2, rfl, -, -, -, -⟩ := hA'.own
    clear hL hG hone hsz hE' hA' p1 p3 p4 F1
    go_wp2
    go_ret
    exact ⟨_, by first | rfl | simp, K1.out, by rw [hR.out]; exact O2.out⟩
  · have hR := Lib.hid (show remS l fm sq fr ca = l.set k ⟨fm, ca, sq, fr⟩ by
      unfold remS
      rw [hf, if_neg (by omega), Int.toNat_natCast])
    have hf' := Lib.hid hf
    clear hf hkf hkc
    go_enter Try.func159, Try.ntmps159
    go_wp2_with (at_builtin; refine wpApp (.tmp 10) (.tmp 11) elSeen rfl rfl (w.heap.size + 1) _ _ _ rfl hOw'.out _ _ _ _ rfl hC.out (by simpa using hln.out) hAn.out hone0.out (by unfold maxLen; omega) (by omega) (by simp <;> omega) ?_)
    intro v1 w1 hO1 hg1 _
    have H1 := Lib.hid (ext_grown (w0 := w.alloc (.cells #[.int .i64 kd, .int .i64 fm, .int .i64 to, .int .i64 sq, .int .i64 fr, .bool mo, .bool re, .int .i64 du, .slice A n c] 66)) (Ext.alloc_ _ _) hg1 hOw'.out (by simp))
    have hA1 := AppR.seen (T := 131) (l := l) (by simpa using hO1)
    obtain ⟨A1, c1, rfl, -, -, hO, -⟩ := hA1.own
    have O1 := Lib.hid hO
    have W1 := Lib.hid hA1.row
    obtain ⟨x1, x2, x3⟩ := blk_cells (ext_blk H1.out b1.out)
    have hMl := Lib.hid (els_up hM'.out H1.out)
    clear hO1 hg1 hA1 hO hC hOw'
    go_wp2_with fail
    refine (sFind _ _ _ _ l _ _ rfl hMl.out (by omega)).mono ?_
    rintro e w2 ⟨rfl, h2⟩
    rw [hf'.out]
    have F2 := Lib.hid h2
    clear h2 x1 x2 x3
    obtain ⟨x1, x2, x3⟩ := blk_cells (ext_blk (Ext.trans H1.out F2.out) b1.out)
    have p1 := x1 1
    have p3 := x1 3
    have p4 := x1 4
    simp at p1 p3 p4
    obtain ⟨G, T, es, rfl, hE, hm⟩ := ((O1.out.ext F2.out).ext (Ext.alloc_ w2 (.cells #[.int .i64 fm, .int .i64 ca, .int .i64 sq, .int .i64 fr] 131))).open_ (by intro h; subst h; simp at hk)
    have hel : k < es.length := by have := congrArg List.length hm; simp at this; omega
    obtain ⟨k0, k1, k2, k3, hf2, hG⟩ := ownE_seen hE hel
    have W2 := own_base (Ext.own (Ext.alloc_ w2 (.cells #[.int .i64 fm, .int .i64 ca, .int .i64 sq, .int .i64 fr] 131)) (Ext.own F2.out W1.out)) (B' := w.heap.size) (by omega)
    have W3 := Lib.hid (own_set (own_set (own_set (own_set W2 (j := k * 4) (by omega) (.int .i64 fm)) (j := k * 4 + 1) (by omega) (.int .i64 ca)) (j := k * 4 + 2) (by omega) (.int .i64 sq)) (j := k * 4 + 3) (by omega) (.int .i64 fr))
    rw [rowS_set] at W3
    have hGB := Lib.hid hE.1
    have hGC := Lib.hid hE.2.1
    have hGne : G ≠ w2.heap.size := by have := hE.2.1; have := F2.out.size; omega
    clear hE x1
    go_wp2
    go_ret
    refine ⟨_, rfl, ?_, ?_⟩
    · have hz := hGB.out
      iterate 4 refine Ext.setCell_ ?_ (by simp; omega) _
      exact Ext.trans (Ext.trans E0.out (Ext.trans H1.out F2.out)) (Ext.alloc_ _ _)
    · rw [hR.out, List.length_set]
      exact W3.out
end Go.Proofs.Ytkmklafjcjkpdaa
