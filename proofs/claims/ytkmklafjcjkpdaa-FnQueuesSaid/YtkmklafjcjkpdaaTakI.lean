/- A message taken out of a queue: the program's side. -/
import Derived.Test.YtkmklafjcjkpdaaTak
import Derived.Test.YtkmklafjcjkpdaaMkX
import Derived.Test.YtkmklafjcjkpdaaEnqI
namespace Go.Proofs.Ytkmklafjcjkpdaa
open Go.RowKit
set_option linter.unusedVariables false
set_option linter.unusedSimpArgs false
theorem AppR.delX {α : Type} {K : Kind α} {T : TypeId} {w w' : World} {B G0 i m : Nat} {rv : Option Nat} {X : Nat → Prop} {v' : Value} {es : List (El α)} (hi : i < es.length) (hm : m = es.length - 1) (hO : w'.ownsRow B T K.size v' m (rowOf K (es.take i) ++ rowOf K (es.drop (i + 1)))) (hg : w.grownBy w' rv)
    (hq : v'.ownBlock = rv ∨ v'.ownBlock = some w.heap.size) (hB : Bod K w B w.heap.size G0 es) (hne : ∀ e ∈ es, K.bd e.x ≠ [] → rv ≠ some e.g) (hXG : ∀ G, rv = some G → ¬ X G) (hX : ∀ x, X x → x < w.heap.size) (hXe : ∀ e ∈ es.eraseIdx i, K.bd e.x ≠ [] → ¬ X e.g) : AppR K T w' B X v' ((es.map (·.x)).eraseIdx i) := by
  have hes : es.take i ++ es.drop (i + 1) = es.eraseIdx i := (List.eraseIdx_eq_take_drop_succ es i).symm
  have hsub : (es.eraseIdx i).Sublist es := List.eraseIdx_sublist es i
  have hl : (es.eraseIdx i).length = m := by rw [List.length_eraseIdx_of_lt hi, hm]
  refine ⟨es.eraseIdx i, by rw [hl, ← hes, rowOf_append]; exact hO, fun G hG => ⟨?_, ?_⟩, fun e he h0 => hXe e he h0, by simp only [List.eraseIdx_eq_take_drop_succ, List.map_append, List.map_take, List.map_drop]⟩
  · rcases hq with hq | hq
    · exact hXG G (by rw [← hq]; exact hG)
    · rw [hq] at hG
      injection hG with hG
      subst hG
      intro hx
      have := hX _ hx
      omega
  · refine ⟨fun e he => ?_, hB.2.sublist hsub⟩
    obtain ⟨z1, z2, z3⟩ := hB.1 e (hsub.subset he)
    refine ⟨z1, z2, ?_⟩
    by_cases h0 : K.bd e.x = []
    · exact .inl h0
    · obtain ⟨a1, a2, a3, a4, cs, T', a5, a6⟩ := z3.resolve_left h0
      have h7 := hne e (hsub.subset he) h0
      refine .inr ⟨a1, a2, Nat.lt_of_lt_of_le a3 hg.size, ?_, cs, T', ?_, a6⟩
      · rcases hq with hq | hq
        · intro h
          exact h7 (by rw [← hq, hG, h])
        · rw [hq] at hG
          injection hG with hG
          omega
      · rw [hg.block _ a3 (fun h => h7 h.symm), a5]

theorem AppR.openE {α : Type} {K : Kind α} {T : TypeId} {w : World} {B n c : Nat} {X : Nat → Prop} {A : Option Addr} {l : List α} (h : AppR K T w B X (.slice A n c) l) (hne : l ≠ []) :
    ∃ G es, A = some ⟨G, 0, none⟩ ∧ OwnE K w B w.heap.size G T es ∧ es.map (·.x) = l ∧ n = es.length ∧ n ≤ c ∧ w.ownsRow B T K.size (.slice (some ⟨G, 0, none⟩) n c) n (rowOf K es) ∧ ¬ X G ∧ ∀ e ∈ es, K.bd e.x ≠ [] → ¬ X e.g := by
  obtain ⟨es, h1, h2, hx, rfl⟩ := h
  have h1' := h1
  obtain ⟨hl, h1⟩ := h1
  rcases h1 with ⟨_, h0⟩ | ⟨g, cap, cur, e1, hB, hg, hc, hm, hs, ht⟩
  · exact absurd (by rw [List.eq_nil_of_length_eq_zero h0]; rfl) hne
  · injection e1 with e1 e2 e3
    subst e1 e2 e3
    refine ⟨g, es, rfl, ⟨hB, (blk_cells hg).2.2, ⟨cur, hg, fun j u hu => ?_⟩, (h2 g rfl).2⟩, rfl, rfl, by simpa using hc, h1', (h2 g rfl).1, hx⟩
    rw [← ht] at hu
    have hj : j < es.length * K.size := by
      rcases Nat.lt_or_ge j (es.length * K.size) with h | h
      · exact h
      · rw [List.getElem?_eq_none (by simp; omega)] at hu
        cases hu
    rw [List.getElem?_take_of_lt hj] at hu
    simpa using hu
theorem AppR.ownX {α : Type} {K : Kind α} {T : TypeId} {w : World} {B n c x : Nat} {X : Nat → Prop} {A : Option Addr} {l : List α} (h : AppR K T w B X (.slice A n c) l) (hx : X x) : OwnX K w B w.heap.size x A l := by
  by_cases hl : l = []
  · exact .inl hl
  · obtain ⟨G, es, h1, h2, h3, _, _, _, h4, h5⟩ := h.openE hl
    exact .inr ⟨G, T, es, h1, h2, ⟨fun e => h4 (by rw [e]; exact hx), fun e he h0 e' => h5 e he h0 (by rw [e']; exact hx)⟩, h3⟩
/-- The block of an element's body, apart from all else of the row. -/
theorem body_apart {T : TypeId} {w : World} {B G p : Nat} {es : List (El Msg)} {X : Nat → Prop} (h : OwnE kMsg w B w.heap.size G T es) (k : Nat) (hk : k < es.length) (hp : B ≤ p ∧ p < w.heap.size) (hX : X p) (hG : ¬ X G) (he : ∀ e ∈ es, kMsg.bd e.x ≠ [] → ¬ X e.g) :
    ∃ g, NewB w B g es[k].A es[k].c es[k].x.body ∧ g < w.heap.size ∧ g ≠ G ∧ (es[k].x.body ≠ [] → g ≠ p) ∧ ∀ e ∈ es.eraseIdx k, kMsg.bd e.x ≠ [] → e.g ≠ g := by
  obtain ⟨h1, h2, h3, h4⟩ := h
  obtain ⟨q1, q2, q3⟩ := h4.1 es[k] (List.getElem_mem _)
  by_cases h0 : es[k].x.body = []
  · refine ⟨p, ⟨q1, by simpa [kMsg] using q2, hp.1, .inl h0⟩, hp.2, fun e => hG (by rw [← e]; exact hX), fun h => absurd h0 h, fun e hm hb e' => he e (List.mem_of_mem_eraseIdx hm) hb (by rw [e']; exact hX)⟩
  · obtain ⟨a, b, c, d, cs, T', e1, e2⟩ := q3.resolve_left (by simpa [kMsg] using h0)
    refine ⟨es[k].g, ⟨q1, by simpa [kMsg] using q2, b, .inr ⟨a, c, cs, T', e1, by simpa [kMsg] using e2⟩⟩, c, d, fun _ e => he es[k] (List.getElem_mem _) (by simpa [kMsg] using h0) (by rw [e]; exact hX), fun e hm hb e' => ?_⟩
    obtain ⟨j, hj, hne, rfl⟩ := (List.mem_eraseIdx_iff_getElem.1 hm)
    have hpw := List.pairwise_iff_getElem.1 h4.2
    rcases Nat.lt_or_gt_of_ne hne with h | h
    · exact hpw j k hj hk h hb (by simpa [kMsg] using h0) e'
    · exact hpw k j hk hj h (by simpa [kMsg] using h0) hb e'.symm
set_option maxRecDepth 8000 in
set_option maxHeartbeats 4000000 in
theorem iTake (w : World) (A : Option Addr) (n c : Nat) (d i : Int) (l : List Msg) (hn : l.length = n) (hM : Els w A 4 (kE kMsg) l) (hb : ∀ m ∈ l, m.body.length ≤ 1048576) (hl : n ≤ 1048576) :
    Calls Try.prog 41 #[.agg #[.slice A n c, .int .i64 d], .int .i64 i] w fun e w' => ∃ A' c' g Am cm, e = .returned (.tuple #[.agg #[.slice A' (tkL l i).length c', .int .i64 d], .agg #[.int .i64 (tkM l i).to, .int .i64 (tkM l i).cat, .int .i64 (tkM l i).dl, .slice Am (tkM l i).body.length cm], .bool (tkB l i)]) ∧ Ext w w' ∧ OwnX kMsg w' w.heap.size w'.heap.size g A' (tkL l i) ∧ NewB w' w.heap.size g Am cm (tkM l i).body := by
  have E0 := Lib.hid (Ext.trans (Ext.trans (Ext.alloc_ w (.cells #[.slice A n c, .int .i64 d] 55)) (Ext.alloc_ _ (.cells #[.slice none 0 0, .int .i64 0] 55))) (Ext.alloc_ _ (.cells #[.int .i64 0, .int .i64 0, .int .i64 0, .slice none 0 0] 59)))
  have b1 := Lib.hid (ext_blk (Ext.trans (Ext.alloc_ _ (.cells #[.slice none 0 0, .int .i64 0] 55)) (Ext.alloc_ _ (.cells #[.int .i64 0, .int .i64 0, .int .i64 0, .slice none 0 0] 59))) (new_blk1 w #[.slice A n c, .int .i64 d] 55))
  have b2 := Lib.hid (ext_blk (Ext.alloc_ _ (.cells #[.int .i64 0, .int .i64 0, .int .i64 0, .slice none 0 0] 59)) (new_blk2 w (.cells #[.slice A n c, .int .i64 d] 55) #[.slice none 0 0, .int .i64 0] 55))
  have b3 := Lib.hid (new_blk3 w (.cells #[.slice A n c, .int .i64 d] 55) (.cells #[.slice none 0 0, .int .i64 0] 55) #[.int .i64 0, .int .i64 0, .int .i64 0, .slice none 0 0] 59)
  have N1 := Lib.hid hn
  have M3 := Lib.hid (els_up hM E0.out)
  have D1 := Lib.hid hb
  have K1 := hl
  clear hn hM hb hl
  go_enter Try.func41, Try.ntmps41
  go_wp2_with fail
  refine (iCopyQ _ _ _ _ _ l N1.out M3.out D1.out K1).mono ?_
  rintro e w1 ⟨A1, c1, rfl, h1, hA1⟩
  have F1 := Lib.hid ((hA1.addX.ext (Ext.alloc_ w1 (.cells #[.slice A1 n c1, .int .i64 d] 55))).weak (B' := w.heap.size + 1 + 1 + 1) (X' := fun x => x = w1.heap.size) (by simp) (fun x hx => by rw [hx]; exact Nat.le_refl _))
  have bo := Lib.hid (new_blk1 w1 #[.slice A1 n c1, .int .i64 d] 55)
  have E2 := Lib.hid (Ext.trans h1 (Ext.alloc_ w1 (.cells #[.slice A1 n c1, .int .i64 d] 55)))
  have z1 := Lib.hid (show w.heap.size + 1 + 1 + 1 ≤ w1.heap.size by have := h1.size; simpa using this)
  clear h1 hA1
  by_cases hok : 0 ≤ i ∧ i < (n : Int)
  · obtain ⟨k, rfl⟩ : ∃ k : Nat, i = (k : Int) := ⟨i.toNat, by omega⟩
    have hk : k < n := by omega
    have hLL := Lib.hid (show tkL l k = l.eraseIdx k by unfold tkL; rw [if_pos ⟨by omega, by rw [N1.out]; omega⟩]; simp)
    have hMM := Lib.hid (show tkM l k = l[k]'(by rw [N1.out]; exact hk) from tkM_get (by rw [N1.out]; exact hk))
    have hBB := Lib.hid (show tkB l k = true by simp [tkB, N1.out]; omega)
    have g0 : ¬ ((k : Int) < 0) := by omega
    have g1 : ¬ ((n : Int) ≤ (k : Int)) := by omega
    clear hok
    obtain ⟨G, es, rfl, hOE, hmap, hel, hcc, hrow, hXG, hXe⟩ := F1.out.openE (List.ne_nil_of_length_pos (by rw [N1.out]; omega))
    have hke : k < es.length := by omega
    have hx : es[k].x = tkM l k := by
      rw [hMM.out]
      have := mem_get hmap (m := k) (by simpa using hke) (by rw [N1.out]; exact hk)
      simpa using this
    obtain ⟨g, hNB, hgl, hgG, hgp, hga⟩ := body_apart hOE k hke (p := w1.heap.size) (X := fun x => x = w1.heap.size) ⟨z1.out, by simp⟩ rfl hXG hXe
    obtain ⟨k0, k1, k2, k3, kf, kG⟩ := ownE_msg hOE hke
    rw [hx] at k0 k1 k2 k3 hNB hgp
    generalize hmm : tkM l k = m at *
    obtain ⟨Ab, hAb⟩ : ∃ Ab, Ab = es[k].A := ⟨_, rfl⟩
    obtain ⟨cb, hcb⟩ : ∃ cb, cb = es[k].c := ⟨_, rfl⟩
    rw [← hAb, ← hcb] at hNB
    rw [← hAb, ← hcb] at k3
    have hOE' := Lib.hid hOE
    have hmp := Lib.hid hmap
    have HL := Lib.hid hel.symm
    have hrow' := Lib.hid hrow
    have hXe' := Lib.hid hXe
    have hga' := Lib.hid hga
    have NB := Lib.hid hNB
    have p0 : (0 : Int) ≤ (k : Int) := by omega
    have p1 : (k : Int) < (n : Int) := by omega
    have p2 : (k : Int) ≤ (n : Int) := by omega
    clear hOE hmap hel hrow hXe hga hNB hx hAb hcb
    go_wp2_with fail
    have bM := Lib.hid (new_blk1 (w1.alloc (.cells #[.slice (some ⟨G, 0, none⟩) n c1, .int .i64 d] 55)) #[.int .i64 m.to, .int .i64 m.cat, .int .i64 m.dl, .slice Ab m.body.length cb] 59)
    have H4 := Lib.hid (Ext.alloc_ (w1.alloc (.cells #[.slice (some ⟨G, 0, none⟩) n c1, .int .i64 d] 55)) (.cells #[.int .i64 m.to, .int .i64 m.cat, .int .i64 m.dl, .slice Ab m.body.length cb] 59))
    rw [World.size_alloc] at bM
    have z4 := Lib.hid (show ((w1.alloc (.cells #[.slice (some ⟨G, 0, none⟩) n c1, .int .i64 d] 55)).alloc (.cells #[.int .i64 m.to, .int .i64 m.cat, .int .i64 m.dl, .slice Ab m.body.length cb] 59)).heap.size = w1.heap.size + 1 + 1 by simp)
    generalize hW4 : (w1.alloc (.cells #[.slice (some ⟨G, 0, none⟩) n c1, .int .i64 d] 55)).alloc (.cells #[.int .i64 m.to, .int .i64 m.cat, .int .i64 m.dl, .slice Ab m.body.length cb] 59) = W4 at *
    have bo5 := Lib.hid (ext_blk H4.out bo.out)
    have hrow4 := Lib.hid (Ext.own H4.out hrow'.out)
    have hBod := Lib.hid ((hOE'.out.2.2.2.ext H4.out).mono (Nat.le_refl _) H4.out.size)
    have E4 := Lib.hid (Ext.trans E2.out H4.out)
    have NB4 := Lib.hid (NB.out.ext H4.out)
    have hgl4 : g < w1.heap.size + 1 := by simpa using hgl
    clear hW4 k0 k1 k2 k3 kf kG hgl hrow'
    obtain ⟨cp1, cp2⟩ := cel_part hrow4.out k (by omega) HL.out
    obtain ⟨PA, hPA0⟩ : ∃ PA : Option Addr, (if c1 = k + 1 then some ⟨G, 0, none⟩ else some ⟨G, (k + 1) * 4, none⟩) = PA := ⟨_, rfl⟩
    have CP2 := Lib.hid (show Cel _ PA (rowOf kMsg (es.drop (k + 1))) by rw [← hPA0]; exact cp2)
    have hPn := Lib.hid (show PA = none → c1 - (k + 1) = 0 by rw [← hPA0]; intro h; split at h <;> cases h)
    have hPA := Lib.hid hPA0
    have w2 : IntKind.i64.wrap ((k : Int) + 1) = (k : Int) + 1 := by rw [IntKind.wrap_i64]; omega
    have hwc : k ≤ c1 := by omega
    have hwc2 : k + 1 ≤ c1 := by omega
    have hwn : k + 1 ≤ n := by omega
    clear cp1 cp2 hPA0
    obtain ⟨y1, y2, y3⟩ := blk_cells bo5.out
    have r0 := y1 0
    have r1 := y1 1
    simp at r0 r1
    clear y1
    refine wp_region_chain 9 (by kernel_rfl) (by kernel_rfl) ?_
    simp only [List.take_succ_cons, List.take_zero, List.drop_succ_cons, List.drop_zero]
    repeat (apply Chain.quiet; · (intro vs wq hEq hd; obtain ⟨hcq, hfq⟩ := bcell hEq; clear hEq hd; (try simp only [Act.put, SP.pick, SP.is, SP.box, id_eq, List.take_succ_cons, List.take_zero, List.drop_succ_cons, List.drop_zero, List.setIfInBounds_toArray, List.set_cons_zero, List.set_cons_succ]); refine growOp_go ?_; go_simp; exact ⟨Ext.refl _, rfl⟩))
    refine Chain.quiet (V := .slice PA (n - (k + 1)) (c1 - (k + 1))) ?_ ?_
    · intro vs wq hEq hd
      obtain ⟨hcq, hfq⟩ := bcell hEq
      clear hEq hd
      (try simp only [Act.put, SP.pick, SP.is, SP.box, id_eq, List.take_succ_cons, List.take_zero, List.drop_succ_cons, List.drop_zero, List.setIfInBounds_toArray, List.set_cons_zero, List.set_cons_succ])
      refine growOp_go ?_
      go_simp
      rw [if_pos ⟨by omega, by omega⟩, hPA.out]
      exact ⟨Ext.refl _, by simp⟩
    refine Chain.done ?_
    intro vs w6 hE6 hd6
    simp only [Act.put, SP.pick, SP.is, SP.box, id_eq, List.take_succ_cons, List.take_zero, List.drop_succ_cons, List.drop_zero, List.setIfInBounds_toArray, List.set_cons_zero, List.set_cons_succ]
    have O6 := Lib.hid (Ext.own hE6 (own_take hrow4.out (k := k) (by omega)))
    rw [show kMsg.size = 4 from rfl, ← show rowOf kMsg (es.take k) = (rowOf kMsg es).take (k * 4) from rowOf_take k] at O6
    have F6 := Lib.hid (Ext.trans E4.out hE6)
    have G6 := Lib.hid hE6
    have bx6 := Lib.hid (ext_blk hE6 bo5.out)
    have bM6 := Lib.hid (ext_blk hE6 bM.out)
    clear hd6 hE6
    refine wpApp (.tmp 30) (.tmp 35) elMsg rfl rfl (w.heap.size + 1 + 1 + 1) (.slice (some ⟨G, 0, none⟩) k c1) k (rowOf kMsg (es.take k)) rfl O6.out PA (n - (k + 1)) (c1 - (k + 1)) (rowOf kMsg (es.drop (k + 1))) rfl (CP2.out.ext G6.out) (by rw [rowOf_len, List.length_drop, HL.out]; rfl) hPn.out row_one (by unfold maxLen; omega) (by omega) (by have := z1.out; have := G6.out.size; have := z4.out; omega) ?_
    intro v' w7 q1 q2 q3
    simp only [Value.ownBlock] at q2 q3
    have hsz6 : w1.heap.size + 1 + 1 ≤ w6.heap.size := by have := G6.out.size; have := z4.out; omega
    have f1 : ∀ G', some G = some G' → ¬ (G' = w1.heap.size ∨ G' = g) := by
      intro G' hG' hx
      injection hG' with hG'
      subst hG'
      rcases hx with hx | hx
      · exact hXG hx
      · exact hgG hx.symm
    have f2 : ∀ e ∈ es.eraseIdx k, kMsg.bd e.x ≠ [] → ¬ (e.g = w1.heap.size ∨ e.g = g) := by
      intro e he h0 hx
      rcases hx with hx | hx
      · exact hXe'.out e (List.mem_of_mem_eraseIdx he) h0 hx
      · exact hga'.out e he h0 hx
    have AD := Lib.hid (AppR.delX (K := kMsg) (i := k) (m := n - 1) (rv := some G) (B := w.heap.size + 1 + 1 + 1) (X := fun x => x = w1.heap.size ∨ x = g) (by rw [HL.out]; omega) (by rw [HL.out]) (by rwa [show k + (n - (k + 1)) = n - 1 by omega] at q1) q2 q3 ((hBod.out.ext G6.out).mono (Nat.le_refl _) G6.out.size) (fun e he h0 h => by injection h with h; exact ((hBod.out.1 e he).2.2.resolve_left h0).2.2.2.1 h.symm) f1 (fun x hx => by rcases hx with hx | hx <;> omega) f2)
    rw [hmp.out, ← hLL.out] at AD
    have hLn := Lib.hid (show (tkL l k).length = n - 1 by rw [hLL.out, List.length_eraseIdx_of_lt (by rw [N1.out]; omega), N1.out])
    obtain ⟨A4, c4, hv4, -, -, hO4, -⟩ := AD.out.own
    rw [hLn.out] at hv4
    subst hv4
    have F7 := Lib.hid (ext_grown F6.out q2 O6.out (by simp))
    have bx7 := Lib.hid ((q2.block _ (heap_lt bx6.out) (fun h => by injection h with h; exact hXG h.symm)).trans bx6.out)
    have hGl : G < w1.heap.size + 1 := by have := hOE'.out.2.1; simpa using this
    have bM7 := Lib.hid ((q2.block _ (heap_lt bM6.out) (fun h => by injection h with h; omega)).trans bM6.out)
    have NB7 := Lib.hid (show NewB w7 (w.heap.size + 1 + 1 + 1) g Ab cb m.body from by
      obtain ⟨n1, n2, n3, n4⟩ := NB4.out.ext G6.out
      refine ⟨n1, n2, n3, ?_⟩
      by_cases h0 : m.body = []
      · exact .inl h0
      · obtain ⟨a1, a2, cs, T, a3, a4⟩ := n4.resolve_left h0
        exact .inr ⟨a1, Nat.lt_of_lt_of_le a2 q2.size, cs, T, (q2.block _ a2 (fun h => by injection h with h; exact hgG h)).trans a3, a4⟩)
    have AS := Lib.hid ((AD.out.set_ (p := ⟨w1.heap.size, 0, none⟩) (.inl rfl) (.slice A4 (n - 1) c4)).ownX (.inr rfl))
    have NS := Lib.hid (NB7.out.chgN (S := fun x => x = w1.heap.size) (Chg.set (p := ⟨w1.heap.size, 0, none⟩) (Chg.refl w7 (fun x => x = w1.heap.size)) rfl (.slice A4 (n - 1) c4)) (fun h0 hx => hgp (by intro h; rw [h] at h0; exact h0 rfl) hx))
    obtain ⟨u1, u2, u3⟩ := blk_cells (ext_blk F7.out b2.out)
    have t0 := u1 0
    have t1 := u1 1
    obtain ⟨v1, v2, v3⟩ := blk_cells (ext_blk F7.out b3.out)
    have s0 := v1 0
    have s1 := v1 1
    have s2 := v1 2
    have s3 := v1 3
    obtain ⟨j1, j2, j3⟩ := blk_cells bx7.out
    have f0 := j1 0
    have f3 := j1 1
    obtain ⟨l1, l2, l3⟩ := blk_cells bM7.out
    have d0 := l1 0
    have d1 := l1 1
    have d2 := l1 2
    have d3 := l1 3
    simp at t0 t1 s0 s1 s2 s3 f0 f3 d0 d1 d2 d3
    have z9 := z1.out
    clear q1 q2 q3 f1 f2 hO4 CP2 hPn hPA G6 bx6 bM6 O6 AD u1 v1 j1 l1 r0 r1 w2 p0 p1 p2 y2 y3 NB7 NB4 NB hBod hOE' hXe' hga' hgp hgG hXG hGl hgl4 hsz6 hrow4 hmp
    go_wp2_with fail
    go_region
    have hd : ∀ {a : World}, Ext a a.drew := fun {a} => Ext.drew (Ext.refl a)
    go_wp2_with fail
    refine bodyPost_ret (v := .tuple #[.agg #[.slice A4 (n - 1) c4, .int .i64 d], .agg #[.int .i64 m.to, .int .i64 m.cat, .int .i64 m.dl, .slice Ab m.body.length cb], .bool true]) (by clear N1 D1 z1 hLL hMM E0 b1 b2 b3 M3 F1 bo E2 HL bM H4 bo5 hLn F7 bx7 bM7 AS NS hd F6 E4 z4 hBB; simp [results, Try.results41, go_sem, *]) rfl ⟨A4, c4, g, Ab, cb, by first | rw [hLn.out, hBB.out, hmm] | rw [hLn.out, hBB.out], ?_, ?_, ?_⟩
    · refine Ext.drew ?_
      iterate 4 refine Ext.setCell_ ?_ (by simp <;> omega) _
      iterate 3 refine Ext.setCell_ ?_ (by simp <;> omega) _
      exact Ext.trans E0.out F7.out
    · have hO := AS.out
      refine OwnX.ext ?_ hd
      refine OwnX.mono (B := w.heap.size + 1 + 1 + 1) (C := w7.heap.size) ?_ (by omega) (by simp)
      refine OwnX.chg (S := fun x => x = w.heap.size + 1 ∨ x = w.heap.size + 1 + 1) (w := w7.setCell ⟨w1.heap.size, 0, none⟩ (.slice A4 (n - 1) c4)) (by simpa using hO) ?_ (fun x h1 h2 h3 h4 => by omega)
      iterate 6 refine Chg.set ?_ (by simp) _
      exact Chg.refl _ _
    · refine NewB.ext ?_ hd
      refine NewB.mono (B := w.heap.size + 1 + 1 + 1) ?_ (by omega)
      iterate 6 refine NewB.set_ ?_ (by simp <;> omega) _
      first | exact NS.out | (rw [hmm]; exact NS.out)
  · have hLL := Lib.hid (show tkL l i = l by unfold tkL; rw [if_neg (by rw [N1.out]; exact hok)])
    have hMM := Lib.hid (show tkM l i = ⟨0, 0, 0, []⟩ from tkM_not (by rw [N1.out]; exact hok))
    have hBB := Lib.hid (show tkB l i = false by simp [tkB, N1.out]; omega)
    obtain ⟨u1, u2, u3⟩ := blk_cells (ext_blk E2.out b2.out)
    have t0 := u1 0
    have t1 := u1 1
    obtain ⟨v1, v2, v3⟩ := blk_cells (ext_blk E2.out b3.out)
    have s0 := v1 0
    have s1 := v1 1
    have s2 := v1 2
    have s3 := v1 3
    have z9 := z1.out
    clear u1 v1
    have hor : i < 0 ∨ (n : Int) ≤ i := by omega
    clear hok
    by_cases hneg : i < 0
    · clear hor
      go_wp2_with fail
      refine bodyPost_ret (v := .tuple #[.agg #[.slice A1 n c1, .int .i64 d], .agg #[.int .i64 0, .int .i64 0, .int .i64 0, .slice none 0 0], .bool false]) (by clear N1 D1 z1 hLL hMM E0 b1 b2 b3 M3 F1 bo E2 hBB K1; simp [results, Try.results41, go_sem, *]) rfl ⟨A1, c1, w.heap.size + 1, none, 0, by rw [hLL.out, hBB.out, hMM.out, N1.out]; rfl, ?_, ?_, ?_⟩
      · iterate 6 refine Ext.setCell_ ?_ (by simp <;> omega) _
        exact Ext.trans E0.out E2.out
      · have hO := F1.out.own'
        rw [hLL.out]
        refine OwnX.mono (B := w.heap.size + 1 + 1 + 1) (C := (w1.alloc (.cells #[.slice A1 n c1, .int .i64 d] 55)).heap.size) ?_ (by omega) (by simp)
        refine OwnX.chg (S := fun x => x = w.heap.size + 1 ∨ x = w.heap.size + 1 + 1) (hO.x (.inr (by omega))) ?_ (fun x h1 h2 h3 h4 => by omega)
        iterate 6 refine Chg.set ?_ (by simp) _
        exact Chg.refl _ _
      · rw [hMM.out]
        exact ⟨fun _ => rfl, Nat.le_refl _, by omega, .inl rfl⟩
    · have hge : (n : Int) ≤ i := by omega
      clear hor
      go_wp2_with fail
      refine bodyPost_ret (v := .tuple #[.agg #[.slice A1 n c1, .int .i64 d], .agg #[.int .i64 0, .int .i64 0, .int .i64 0, .slice none 0 0], .bool false]) (by clear N1 D1 z1 hLL hMM E0 b1 b2 b3 M3 F1 bo E2 hBB K1; simp [results, Try.results41, go_sem, *]) rfl ⟨A1, c1, w.heap.size + 1, none, 0, by rw [hLL.out, hBB.out, hMM.out, N1.out]; rfl, ?_, ?_, ?_⟩
      · iterate 6 refine Ext.setCell_ ?_ (by simp <;> omega) _
        exact Ext.trans E0.out E2.out
      · have hO := F1.out.own'
        rw [hLL.out]
        refine OwnX.mono (B := w.heap.size + 1 + 1 + 1) (C := (w1.alloc (.cells #[.slice A1 n c1, .int .i64 d] 55)).heap.size) ?_ (by omega) (by simp)
        refine OwnX.chg (S := fun x => x = w.heap.size + 1 ∨ x = w.heap.size + 1 + 1) (hO.x (.inr (by omega))) ?_ (fun x h1 h2 h3 h4 => by omega)
        iterate 6 refine Chg.set ?_ (by simp) _
        exact Chg.refl _ _
      · rw [hMM.out]
        exact ⟨fun _ => rfl, Nat.le_refl _, by omega, .inl rfl⟩
end Go.Proofs.Ytkmklafjcjkpdaa
